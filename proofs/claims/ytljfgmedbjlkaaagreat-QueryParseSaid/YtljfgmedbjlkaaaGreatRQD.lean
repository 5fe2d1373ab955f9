/- A part of the engine: steps over the model. Over any program. -/
import Derived.Test.YtljfgmedbjlkaaaGreatQA
import Derived.Test.YtljfgmedbjlkaaaGreatV3
import Derived.Test.YtljfgmedbjlkaaaGreatQV
import Derived.Test.YtljfgmedbjlkaaaGreatRQA
import Derived.Test.YtljfgmedbjlkaaaGreatRQB
import Derived.Test.YtljfgmedbjlkaaaGreatProg
import Derived.Test.YtljfgmedbjlkaaaGreatRQC
namespace Go.Proofs.YtljfgmedbjlkaaaGreat
open Go.RowKit Go.Eng Go.QP
theorem T.cf191:CF Tryz.prog 191:=fun _ _=>by kernel_rfl
theorem T.cf61:CF Tryz.prog 61:=fun _ _=>by kernel_rfl
theorem literal119 (t:ByteArray) (S:Nat→Prop) (bb a:Nat) (bd:Bool) (w0:World) (Hx:Hp S w0 w0 [RdC bb t a bd]) (hs:t.size≤68719476736) (ha:a≤t.size) :
  Calls Tryz.prog 119 #[.pointer (some ⟨bb,0,none⟩)] w0 fun e w'=>∃ (x:Rw) (a':Nat) (b':Bool),e= .returned (.agg (eL.enc x).toArray)∧Stp (litR ((bl t).drop a) a) bd a x.1 a' b'∧a'≤t.size∧Hp S w0 w' [RdC bb t a' b',pL x]:=by
 have H0:Hp S w0 w0 [RdC bb t a bd]:=Hx
 refine enter Tryz.func119 rfl 84 Tryz.ntmps119 rfl<|?_
 refine sr fun Q1 k2=>?_
 refine st_e<|Eal H0 T.zv37 fun b3 w4 H5 x6=>nl<|k2 _ _<|seqK fun Q7 kn8 kr9 ke10=>?_
 refine sr fun Q11 k12=>qt mv<|qt (x_nilCheck rfl)<|qt (x_field (o:=0) T.fa130_2 rfl)<|qt (x_load1 T.na4 rfl (H5.ld 1 rfl 2 rfl))<|nl<|k12 _ _<|cnd (p:=bd=true) rfl (fun h13=>?_) (fun h13=>?_)
 ·refine sr fun Q14 k15=>qt (v:=.agg #[.int .i64 ((0:Nat):Int),.string ByteArray.empty,.slice none 0 0,.bool false,.string ByteArray.empty,.bool false,.string ByteArray.empty]) (x_build (fun _=>by kernel_rfl))<|?_
  refine st_s<|Est (v:=.agg #[.int .i64 ((0:Nat):Int),.string ByteArray.empty,.slice none 0 0,.bool false,.string ByteArray.empty,.bool false,.string ByteArray.empty]) H5 0 T.sz37 rfl rfl rfl rfl rfl rfl fun w16 H17=>nl<|k15 _ _<|ret<|kr9 _ _<|leaveC (P:=Tryz.prog) (fn:=Tryz.f119) (t:=2) (T:=37) (b:=b3) (o:=0) (cs:=[.int .i64 ((0:Nat):Int),.string ByteArray.empty,.slice none 0 0,.bool false,.string ByteArray.empty,.bool false,.string ByteArray.empty]) rfl T.ag37 rfl (H17.lds 0 rfl 0 [.int .i64 ((0:Nat):Int),.string ByteArray.empty,.slice none 0 0,.bool false,.string ByteArray.empty,.bool false,.string ByteArray.empty] rfl) ?_
  exact ⟨(⟨0,ByteArray.empty,[],Tm0,Tm0⟩,(none,0)),a,bd,rfl,Stp.was (by assumption),by omega,(H17.nilQ 35 eT).pick [2,0] (by decide)⟩
 ·refine skip<|kn8 _ _<|seqK fun Q18 kn19 kr20 ke21=>?_
  refine sr fun Q22 k23=>qt mv<|?_
  have H25:Hp S w0 w4 ([RdC bb t a bd]++[cB b3 37 [.int .i64 ((0:Nat):Int),.string ByteArray.empty,.slice none 0 0,.bool false,.string ByteArray.empty,.bool false,.string ByteArray.empty]]):=(H5.pick [1,0] (by decide))
  refine cl T.cf63 (end63 t _ bb a bd _ H25.startL hs (by omega)) rfl fun _ w26 ⟨er,K24⟩=>⟨_,er,?_⟩
  have H27:=H25.callL K24
  refine st_if (p:=t.size≤a) (x_move rfl) (fun h28=>?_) (fun h28=>?_)
  ·refine st_gn 2 14 rfl rfl (by decide) rfl<|st_gn 2 14 rfl rfl (by decide) rfl<|st_gn 2 14 rfl rfl (by decide) rfl<|st_gn 2 14 rfl rfl (by decide) rfl<|qt (pkT rfl)<|nl<|k23 _ _<|cndT rfl<|?_
   refine sr fun Q29 k30=>qt mv<|?_
   have H37:Hp S w0 w26 ([RdC bb t a bd]++[cB b3 37 [.int .i64 ((0:Nat):Int),.string ByteArray.empty,.slice none 0 0,.bool false,.string ByteArray.empty,.bool false,.string ByteArray.empty]]):=(H27.pick [0,1] (by decide))
   refine cl T.cf190 (term190 t _ bb a bd _ H37.startL hs (by omega)) rfl fun _ w38 ⟨x34,a35,b36,er,hst32,hle33,K31⟩=>⟨_,er,?_⟩
   have H39:=H37.callL K31
   refine st_e<|Eal H39 T.zv35 fun b40 w41 H42 x43=>?_
   refine st_s<|Est (v:=.agg #[.bool (decide (x34.1=true)),.string x34.2]) H42 0 T.sz35 rfl rfl rfl rfl rfl rfl fun w44 H45=>nl<|k30 _ _<|?_
   refine sr fun Q46 k47=>qt mv<|qt (x_loadA [.bool (decide (x34.1=true)),.string x34.2] T.ag35 rfl (H45.lds 0 rfl 0 [.bool (decide (x34.1=true)),.string x34.2] rfl))<|?_
   have H54:Hp S w0 w44 ([RdC bb t a35 b36]++[cB b40 35 [.bool (decide (x34.1=true)),.string x34.2],cB b3 37 [.int .i64 ((0:Nat):Int),.string ByteArray.empty,.slice none 0 0,.bool false,.string ByteArray.empty,.bool false,.string ByteArray.empty]]):=(H45.pick [1,0,2] (by decide))
   refine cl T.cf191 (unlike191 t _ bb a35 b36 _ H54.startL hs (by omega) x34) rfl fun _ w55 ⟨z51,a52,b53,er,hst49,hle50,K48⟩=>⟨_,er,?_⟩
   have H56:=H54.callL K48
   refine st_s<|Est (v:=.agg #[.int .i64 3,.string ByteArray.empty,.slice none 0 0,.bool (decide (x34.1=true)),.string x34.2,.bool (decide (z51.1=true)),.string z51.2]) H56 2 T.sz37 rfl rfl rfl rfl rfl rfl fun w57 H58=>nl<|k47 _ _<|ret<|kr20 _ _<|leaveC (P:=Tryz.prog) (fn:=Tryz.f119) (t:=2) (T:=37) (b:=b3) (o:=0) (cs:=[.int .i64 3,.string ByteArray.empty,.slice none 0 0,.bool (decide (x34.1=true)),.string x34.2,.bool (decide (z51.1=true)),.string z51.2]) rfl T.ag37 rfl (H58.lds 2 rfl 0 [.int .i64 3,.string ByteArray.empty,.slice none 0 0,.bool (decide (x34.1=true)),.string x34.2,.bool (decide (z51.1=true)),.string z51.2] rfl) ?_
   exact ⟨(⟨3,ByteArray.empty,[],x34,z51⟩,(none,0)),a52,b53,rfl,lit_1 (by first | assumption | (rw [pk_off (by omega)];decide)) hst32 hst49,by omega,(H58.nilQ 35 eT).pick [1,0] (by decide)⟩
  ·refine st_gq 2 14 rfl rfl (by decide)<|qt mv<|st_gq 2 14 rfl rfl (by decide)<|?_
   have H60:Hp S w0 w26 ([RdC bb t a bd]++[cB b3 37 [.int .i64 ((0:Nat):Int),.string ByteArray.empty,.slice none 0 0,.bool false,.string ByteArray.empty,.bool false,.string ByteArray.empty]]):=(H27.pick [0,1] (by decide))
   refine cl T.cf115 (peek115 t _ bb a bd _ H60.startL hs (by omega)) rfl fun _ w61 ⟨er,K59⟩=>⟨_,er,?_⟩
   have H62:=H60.callL K59
   refine st_gq 2 14 rfl rfl (by decide)<|?_
   refine cl T.cf187 (small187 _ _) rfl fun _ _ ⟨er,rfl⟩=>⟨_,er,?_⟩
   refine st_gq 2 14 rfl rfl (by decide)<|qt (x_notP rfl)<|qt (pkF rfl)<|nl<|k23 _ _<|cnd (p:=¬ (Sm (pk t a))) rfl (fun h64=>?_) (fun h64=>?_)
   ·refine sr fun Q65 k66=>qt mv<|?_
    have H73:Hp S w0 w61 ([RdC bb t a bd]++[cB b3 37 [.int .i64 ((0:Nat):Int),.string ByteArray.empty,.slice none 0 0,.bool false,.string ByteArray.empty,.bool false,.string ByteArray.empty]]):=(H62.pick [0,1] (by decide))
    refine cl T.cf190 (term190 t _ bb a bd _ H73.startL hs (by omega)) rfl fun _ w74 ⟨x70,a71,b72,er,hst68,hle69,K67⟩=>⟨_,er,?_⟩
    have H75:=H73.callL K67
    refine st_e<|Eal H75 T.zv35 fun b76 w77 H78 x79=>?_
    refine st_s<|Est (v:=.agg #[.bool (decide (x70.1=true)),.string x70.2]) H78 0 T.sz35 rfl rfl rfl rfl rfl rfl fun w80 H81=>nl<|k66 _ _<|?_
    refine sr fun Q82 k83=>qt mv<|qt (x_loadA [.bool (decide (x70.1=true)),.string x70.2] T.ag35 rfl (H81.lds 0 rfl 0 [.bool (decide (x70.1=true)),.string x70.2] rfl))<|?_
    have H90:Hp S w0 w80 ([RdC bb t a71 b72]++[cB b76 35 [.bool (decide (x70.1=true)),.string x70.2],cB b3 37 [.int .i64 ((0:Nat):Int),.string ByteArray.empty,.slice none 0 0,.bool false,.string ByteArray.empty,.bool false,.string ByteArray.empty]]):=(H81.pick [1,0,2] (by decide))
    refine cl T.cf191 (unlike191 t _ bb a71 b72 _ H90.startL hs (by omega) x70) rfl fun _ w91 ⟨z87,a88,b89,er,hst85,hle86,K84⟩=>⟨_,er,?_⟩
    have H92:=H90.callL K84
    refine st_s<|Est (v:=.agg #[.int .i64 3,.string ByteArray.empty,.slice none 0 0,.bool (decide (x70.1=true)),.string x70.2,.bool (decide (z87.1=true)),.string z87.2]) H92 2 T.sz37 rfl rfl rfl rfl rfl rfl fun w93 H94=>nl<|k83 _ _<|ret<|kr20 _ _<|leaveC (P:=Tryz.prog) (fn:=Tryz.f119) (t:=2) (T:=37) (b:=b3) (o:=0) (cs:=[.int .i64 3,.string ByteArray.empty,.slice none 0 0,.bool (decide (x70.1=true)),.string x70.2,.bool (decide (z87.1=true)),.string z87.2]) rfl T.ag37 rfl (H94.lds 2 rfl 0 [.int .i64 3,.string ByteArray.empty,.slice none 0 0,.bool (decide (x70.1=true)),.string x70.2,.bool (decide (z87.1=true)),.string z87.2] rfl) ?_
    exact ⟨(⟨3,ByteArray.empty,[],x70,z87⟩,(none,0)),a88,b89,rfl,lit_1 (by first | assumption | (rw [pk_off (by omega)];decide)) hst68 hst85,by omega,(H94.nilQ 35 eT).pick [1,0] (by decide)⟩
   ·refine skip<|kn19 _ _<|?_
    refine sr fun Q95 k96=>qt mv<|?_
    have H103:Hp S w0 w61 ([RdC bb t a bd]++[cB b3 37 [.int .i64 ((0:Nat):Int),.string ByteArray.empty,.slice none 0 0,.bool false,.string ByteArray.empty,.bool false,.string ByteArray.empty]]):=(H62.pick [0,1] (by decide))
    refine cl T.cf188 (run188 t _ bb a bd _ H103.startL hs (by omega) (by assumption)) rfl fun _ w104 ⟨s100,a101,b102,er,hst98,hle99,K97⟩=>⟨_,er,?_⟩
    have H105:=H103.callL K97
    refine qt asg<|nl<|k96 _ _<|seqK fun Q106 kn107 kr108 ke109=>?_
    refine sr fun Q110 k111=>qt mv<|qt (x_nilCheck rfl)<|qt (x_field (o:=0) T.fa130_2 rfl)<|qt (x_load1 T.na4 rfl (H105.ld 0 rfl 2 rfl))<|nl<|k111 _ _<|cnd (p:=b102=true) rfl (fun h112=>?_) (fun h112=>?_)
    ·refine sr fun Q113 k114=>qt (v:=.agg #[.int .i64 ((0:Nat):Int),.string ByteArray.empty,.slice none 0 0,.bool false,.string ByteArray.empty,.bool false,.string ByteArray.empty]) (x_build (fun _=>by kernel_rfl))<|?_
     refine st_s<|Est (v:=.agg #[.int .i64 ((0:Nat):Int),.string ByteArray.empty,.slice none 0 0,.bool false,.string ByteArray.empty,.bool false,.string ByteArray.empty]) H105 1 T.sz37 rfl rfl rfl rfl rfl rfl fun w115 H116=>nl<|k114 _ _<|ret<|kr108 _ _<|leaveC (P:=Tryz.prog) (fn:=Tryz.f119) (t:=2) (T:=37) (b:=b3) (o:=0) (cs:=[.int .i64 ((0:Nat):Int),.string ByteArray.empty,.slice none 0 0,.bool false,.string ByteArray.empty,.bool false,.string ByteArray.empty]) rfl T.ag37 rfl (H116.lds 1 rfl 0 [.int .i64 ((0:Nat):Int),.string ByteArray.empty,.slice none 0 0,.bool false,.string ByteArray.empty,.bool false,.string ByteArray.empty] rfl) ?_
     exact ⟨(⟨0,ByteArray.empty,[],Tm0,Tm0⟩,(none,0)),a101,b102,rfl,lit_2 (Decidable.of_not_not (by assumption)) hst98 (by assumption),by omega,(H116.nilQ 35 eT).pick [1,0] (by decide)⟩
    ·refine skip<|kn107 _ _<|seqK fun Q117 kn118 kr119 ke120=>?_
     refine sr fun Q121 k122=>qt mv<|qt (x_eqlS rfl rfl)<|nl<|k122 _ _<|cnd (p:=s100.toList=(ByteArray.mk #[110,111,116]).toList) rfl (fun h123=>?_) (fun h123=>?_)
     ·refine sr fun Q124 k125=>qt mv<|qt (x_nilCheck rfl)<|qt (x_field (o:=0) T.fa130_1 rfl)<|qt (x_load1 T.na3 rfl (H105.ld 0 rfl 1 rfl))<|qt asg<|nl<|k125 _ _<|?_
      refine sr fun Q126 k127=>qt mv<|?_
      have H133:Hp S w0 w104 ([RdC bb t a101 b102]++[cB b3 37 [.int .i64 ((0:Nat):Int),.string ByteArray.empty,.slice none 0 0,.bool false,.string ByteArray.empty,.bool false,.string ByteArray.empty]]):=(H105.pick [0,1] (by decide))
      refine cl T.cf60 (skip60 t _ bb a101 b102 _ H133.startL hs (by omega)) rfl fun _ w134 ⟨a131,b132,er,hst129,hle130,K128⟩=>⟨_,er,?_⟩
      have H135:=H133.callL K128
      refine nl<|k127 _ _<|seqK fun Q136 kn137 kr138 ke139=>?_
      refine sr fun Q140 k141=>qt mv<|qt (x_nilCheck rfl)<|qt (x_field (o:=0) T.fa130_1 rfl)<|qt (x_load1 T.na3 rfl (H135.ld 0 rfl 1 rfl))<|qt mv<|qt (x_eqlN rfl rfl)<|st_if (p:=a131=a101) (x_move rfl) (fun h142=>?_) (fun h142=>?_)
      ·refine st_gq 6 46 rfl rfl (by decide)<|qt mv<|st_gq 6 46 rfl rfl (by decide)<|?_
       have H144:Hp S w0 w134 ([RdC bb t a131 b132]++[cB b3 37 [.int .i64 ((0:Nat):Int),.string ByteArray.empty,.slice none 0 0,.bool false,.string ByteArray.empty,.bool false,.string ByteArray.empty]]):=(H135.pick [0,1] (by decide))
       refine cl T.cf192 (wordly192 t _ bb a131 b132 _ H144.startL hs (by omega)) rfl fun _ w145 ⟨er,K143⟩=>⟨_,er,?_⟩
       have H146:=H144.callL K143
       refine qt (pkT rfl)<|nl<|k141 _ _<|cnd (p:=Wordly ((bl t).drop a131)) rfl (fun h147=>?_) (fun h147=>?_)
       ·refine region<|qt mv<|qt mv<|qt (x_nilCheck rfl)<|qt (x_field (o:=0) T.fa130_1 rfl)<|qt (x_load1 T.na3 rfl (H146.ld 0 rfl 1 rfl))<|?_
        have H149:Hp S w0 w145 ([RdC bb t a131 b132]++[cB b3 37 [.int .i64 ((0:Nat):Int),.string ByteArray.empty,.slice none 0 0,.bool false,.string ByteArray.empty,.bool false,.string ByteArray.empty]]):=(H146.pick [0,1] (by decide))
        refine cl T.cf64 (stop64 t _ bb a131 b132 _ H149.startL hs (by omega)) rfl fun _ w150 ⟨er,K148⟩=>⟨_,er,?_⟩
        have H151:=H149.callL K148
        refine nl<|kn137 _ _<|?_
        refine sr fun Q152 k153=>qt mv<|?_
        have H163:Hp S w0 w150 ([RdC bb t a131 true]++[cB b3 37 [.int .i64 ((0:Nat):Int),.string ByteArray.empty,.slice none 0 0,.bool false,.string ByteArray.empty,.bool false,.string ByteArray.empty]]):=(H151.pick [0,1] (by decide))
        refine cl T.cf61 (atom61 t _ bb a131 true _ H163.startL hs (by omega)) rfl fun _ w164 ⟨s157,xs158,ad159,c160,a161,b162,er,hst155,hle156,K154⟩=>⟨_,er,?_⟩
        have H165:=H163.callL K154
        refine qt (v:=.agg #[.int .i64 ((2:Nat):Int),.string s157,.slice ad159 xs158.length c160,.bool false,.string ByteArray.empty,.bool false,.string ByteArray.empty]) (x_build (fun _=>by kernel_rfl))<|?_
        refine st_s<|Est (v:=.agg #[.int .i64 ((2:Nat):Int),.string s157,.slice ad159 xs158.length c160,.bool false,.string ByteArray.empty,.bool false,.string ByteArray.empty]) H165 2 T.sz37 rfl rfl rfl rfl rfl rfl fun w166 H167=>nl<|k153 _ _<|ret<|kr119 _ _<|leaveC (P:=Tryz.prog) (fn:=Tryz.f119) (t:=2) (T:=37) (b:=b3) (o:=0) (cs:=[.int .i64 ((2:Nat):Int),.string s157,.slice ad159 xs158.length c160,.bool false,.string ByteArray.empty,.bool false,.string ByteArray.empty]) rfl T.ag37 rfl (H167.lds 2 rfl 0 [.int .i64 ((2:Nat):Int),.string s157,.slice ad159 xs158.length c160,.bool false,.string ByteArray.empty,.bool false,.string ByteArray.empty] rfl) ?_
        exact ⟨(⟨2,s157,xs158,Tm0,Tm0⟩,(ad159,c160)),a161,b162,rfl,lit_3 (Decidable.of_not_not (by assumption)) hst98 h123 hst129 ⟨by omega,by assumption⟩ hst155,by omega,(H167.pick [0,1] (by decide))⟩
       ·refine skip<|kn137 _ _<|?_
        refine sr fun Q168 k169=>qt mv<|?_
        have H179:Hp S w0 w145 ([RdC bb t a131 b132]++[cB b3 37 [.int .i64 ((0:Nat):Int),.string ByteArray.empty,.slice none 0 0,.bool false,.string ByteArray.empty,.bool false,.string ByteArray.empty]]):=(H146.pick [0,1] (by decide))
        refine cl T.cf61 (atom61 t _ bb a131 b132 _ H179.startL hs (by omega)) rfl fun _ w180 ⟨s173,xs174,ad175,c176,a177,b178,er,hst171,hle172,K170⟩=>⟨_,er,?_⟩
        have H181:=H179.callL K170
        refine qt (v:=.agg #[.int .i64 ((2:Nat):Int),.string s173,.slice ad175 xs174.length c176,.bool false,.string ByteArray.empty,.bool false,.string ByteArray.empty]) (x_build (fun _=>by kernel_rfl))<|?_
        refine st_s<|Est (v:=.agg #[.int .i64 ((2:Nat):Int),.string s173,.slice ad175 xs174.length c176,.bool false,.string ByteArray.empty,.bool false,.string ByteArray.empty]) H181 2 T.sz37 rfl rfl rfl rfl rfl rfl fun w182 H183=>nl<|k169 _ _<|ret<|kr119 _ _<|leaveC (P:=Tryz.prog) (fn:=Tryz.f119) (t:=2) (T:=37) (b:=b3) (o:=0) (cs:=[.int .i64 ((2:Nat):Int),.string s173,.slice ad175 xs174.length c176,.bool false,.string ByteArray.empty,.bool false,.string ByteArray.empty]) rfl T.ag37 rfl (H183.lds 2 rfl 0 [.int .i64 ((2:Nat):Int),.string s173,.slice ad175 xs174.length c176,.bool false,.string ByteArray.empty,.bool false,.string ByteArray.empty] rfl) ?_
        exact ⟨(⟨2,s173,xs174,Tm0,Tm0⟩,(ad175,c176)),a177,b178,rfl,lit_4 (Decidable.of_not_not (by assumption)) hst98 h123 hst129 (by first | (rintro ⟨h,_⟩;omega) | (rintro ⟨_,h⟩;exact absurd h (by assumption))) hst171,by omega,(H183.pick [0,1] (by decide))⟩
      ·refine st_gn 6 46 rfl rfl (by decide) rfl<|st_gn 6 46 rfl rfl (by decide) rfl<|qt (pkF rfl)<|nl<|k141 _ _<|cndF rfl<|skip<|kn137 _ _<|?_
       refine sr fun Q184 k185=>qt mv<|?_
       have H195:Hp S w0 w134 ([RdC bb t a131 b132]++[cB b3 37 [.int .i64 ((0:Nat):Int),.string ByteArray.empty,.slice none 0 0,.bool false,.string ByteArray.empty,.bool false,.string ByteArray.empty]]):=(H135.pick [0,1] (by decide))
       refine cl T.cf61 (atom61 t _ bb a131 b132 _ H195.startL hs (by omega)) rfl fun _ w196 ⟨s189,xs190,ad191,c192,a193,b194,er,hst187,hle188,K186⟩=>⟨_,er,?_⟩
       have H197:=H195.callL K186
       refine qt (v:=.agg #[.int .i64 ((2:Nat):Int),.string s189,.slice ad191 xs190.length c192,.bool false,.string ByteArray.empty,.bool false,.string ByteArray.empty]) (x_build (fun _=>by kernel_rfl))<|?_
       refine st_s<|Est (v:=.agg #[.int .i64 ((2:Nat):Int),.string s189,.slice ad191 xs190.length c192,.bool false,.string ByteArray.empty,.bool false,.string ByteArray.empty]) H197 2 T.sz37 rfl rfl rfl rfl rfl rfl fun w198 H199=>nl<|k185 _ _<|ret<|kr119 _ _<|leaveC (P:=Tryz.prog) (fn:=Tryz.f119) (t:=2) (T:=37) (b:=b3) (o:=0) (cs:=[.int .i64 ((2:Nat):Int),.string s189,.slice ad191 xs190.length c192,.bool false,.string ByteArray.empty,.bool false,.string ByteArray.empty]) rfl T.ag37 rfl (H199.lds 2 rfl 0 [.int .i64 ((2:Nat):Int),.string s189,.slice ad191 xs190.length c192,.bool false,.string ByteArray.empty,.bool false,.string ByteArray.empty] rfl) ?_
       exact ⟨(⟨2,s189,xs190,Tm0,Tm0⟩,(ad191,c192)),a193,b194,rfl,lit_4 (Decidable.of_not_not (by assumption)) hst98 h123 hst129 (by first | (rintro ⟨h,_⟩;omega) | (rintro ⟨_,h⟩;exact absurd h (by assumption))) hst187,by omega,(H199.pick [0,1] (by decide))⟩
     ·refine skip<|kn118 _ _<|seqK fun Q200 kn201 kr202 ke203=>?_
      refine sr fun Q204 k205=>qt mv<|?_
      refine cl T.cf189 (rsv189 _ _) rfl fun _ _ ⟨er,rfl⟩=>⟨_,er,?_⟩
      refine nl<|k205 _ _<|cnd (p:=Rsv s100) rfl (fun h207=>?_) (fun h207=>?_)
      ·refine sr fun Q208 k209=>qt mv<|qt mv<|qt (x_nilCheck rfl)<|qt (x_field (o:=0) T.fa130_1 rfl)<|qt (x_load1 T.na3 rfl (H105.ld 0 rfl 1 rfl))<|?_
       have H211:Hp S w0 w104 ([RdC bb t a101 b102]++[cB b3 37 [.int .i64 ((0:Nat):Int),.string ByteArray.empty,.slice none 0 0,.bool false,.string ByteArray.empty,.bool false,.string ByteArray.empty]]):=(H105.pick [0,1] (by decide))
       refine cl T.cf64 (stop64 t _ bb a101 b102 _ H211.startL hs (by omega)) rfl fun _ w212 ⟨er,K210⟩=>⟨_,er,?_⟩
       have H213:=H211.callL K210
       refine nl<|k209 _ _<|?_
       refine sr fun Q214 k215=>qt (v:=.agg #[.int .i64 ((0:Nat):Int),.string ByteArray.empty,.slice none 0 0,.bool false,.string ByteArray.empty,.bool false,.string ByteArray.empty]) (x_build (fun _=>by kernel_rfl))<|?_
       refine st_s<|Est (v:=.agg #[.int .i64 ((0:Nat):Int),.string ByteArray.empty,.slice none 0 0,.bool false,.string ByteArray.empty,.bool false,.string ByteArray.empty]) H213 1 T.sz37 rfl rfl rfl rfl rfl rfl fun w216 H217=>nl<|k215 _ _<|ret<|kr202 _ _<|leaveC (P:=Tryz.prog) (fn:=Tryz.f119) (t:=2) (T:=37) (b:=b3) (o:=0) (cs:=[.int .i64 ((0:Nat):Int),.string ByteArray.empty,.slice none 0 0,.bool false,.string ByteArray.empty,.bool false,.string ByteArray.empty]) rfl T.ag37 rfl (H217.lds 1 rfl 0 [.int .i64 ((0:Nat):Int),.string ByteArray.empty,.slice none 0 0,.bool false,.string ByteArray.empty,.bool false,.string ByteArray.empty] rfl) ?_
       exact ⟨(⟨0,ByteArray.empty,[],Tm0,Tm0⟩,(none,0)),a101,true,rfl,lit_5 (Decidable.of_not_not (by assumption)) hst98 h123 (by assumption),by omega,(H217.nilQ 35 eT).pick [1,0] (by decide)⟩
      ·refine skip<|kn201 _ _<|?_
       refine sr fun Q218 k219=>qt mv<|?_
       have H225:Hp S w0 w104 ([RdC bb t a101 b102]++[cB b3 37 [.int .i64 ((0:Nat):Int),.string ByteArray.empty,.slice none 0 0,.bool false,.string ByteArray.empty,.bool false,.string ByteArray.empty]]):=(H105.pick [0,1] (by decide))
       refine cl T.cf60 (skip60 t _ bb a101 b102 _ H225.startL hs (by omega)) rfl fun _ w226 ⟨a223,b224,er,hst221,hle222,K220⟩=>⟨_,er,?_⟩
       have H227:=H225.callL K220
       refine nl<|k219 _ _<|seqK fun Q228 kn229 kr230 ke231=>?_
       refine sr fun Q232 k233=>qt mv<|?_
       have H235:Hp S w0 w226 ([RdC bb t a223 b224]++[cB b3 37 [.int .i64 ((0:Nat):Int),.string ByteArray.empty,.slice none 0 0,.bool false,.string ByteArray.empty,.bool false,.string ByteArray.empty]]):=(H227.pick [0,1] (by decide))
       refine cl T.cf115 (peek115 t _ bb a223 b224 _ H235.startL hs (by omega)) rfl fun _ w236 ⟨er,K234⟩=>⟨_,er,?_⟩
       have H237:=H235.callL K234
       refine qt (x_eqlN (b:=33) rfl rfl)<|nl<|k233 _ _<|cnd (p:=(pk t a223)=33) rfl (fun h238=>?_) (fun h238=>?_)
       ·refine sr fun Q239 k240=>qt mv<|qt mv<|qt (v:=.agg #[.bool false,.string s100]) (x_build (fun _=>by kernel_rfl))<|?_
        have H247:Hp S w0 w236 ([RdC bb t a223 b224]++[cB b3 37 [.int .i64 ((0:Nat):Int),.string ByteArray.empty,.slice none 0 0,.bool false,.string ByteArray.empty,.bool false,.string ByteArray.empty]]):=(H237.pick [0,1] (by decide))
        refine cl T.cf191 (unlike191 t _ bb a223 b224 _ H247.startL hs (by omega) (false,s100)) rfl fun _ w248 ⟨z244,a245,b246,er,hst242,hle243,K241⟩=>⟨_,er,?_⟩
        have H249:=H247.callL K241
        refine st_s<|Est (v:=.agg #[.int .i64 3,.string ByteArray.empty,.slice none 0 0,.bool false,.string s100,.bool (decide (z244.1=true)),.string z244.2]) H249 1 T.sz37 rfl rfl rfl rfl rfl rfl fun w250 H251=>nl<|k240 _ _<|ret<|kr230 _ _<|leaveC (P:=Tryz.prog) (fn:=Tryz.f119) (t:=2) (T:=37) (b:=b3) (o:=0) (cs:=[.int .i64 3,.string ByteArray.empty,.slice none 0 0,.bool false,.string s100,.bool (decide (z244.1=true)),.string z244.2]) rfl T.ag37 rfl (H251.lds 1 rfl 0 [.int .i64 3,.string ByteArray.empty,.slice none 0 0,.bool false,.string s100,.bool (decide (z244.1=true)),.string z244.2] rfl) ?_
        exact ⟨(⟨3,ByteArray.empty,[],(false,s100),z244⟩,(none,0)),a245,b246,rfl,lit_6 (Decidable.of_not_not (by assumption)) hst98 h123 (by assumption) hst221 (by omega) hst242,by omega,(H251.nilQ 35 eT).pick [1,0] (by decide)⟩
       ·refine skip<|kn229 _ _<|?_
        refine sr fun Q252 k253=>qt mv<|qt (v:=.agg #[.string s100,.slice none 0 0]) (x_build (fun _=>by kernel_rfl))<|?_
        refine st_e<|Eal H237 T.zv32 fun b254 w255 H256 x257=>?_
        refine st_s<|Est (v:=.agg #[.string s100,.slice none 0 0]) H256 0 T.sz32 rfl rfl rfl rfl rfl rfl fun w258 H259=>nl<|k253 _ _<|?_
        refine sr fun Q260 k261=>qt mv<|?_
        have H270:Hp S w0 w258 ([RdC bb t a223 b224]++[cB b254 32 [.string s100,.slice none 0 0],cB b3 37 [.int .i64 ((0:Nat):Int),.string ByteArray.empty,.slice none 0 0,.bool false,.string ByteArray.empty,.bool false,.string ByteArray.empty]]):=(H259.pick [1,0,2] (by decide))
        refine cl T.cf117 (args117 t _ bb a223 b224 _ H270.startL hs (by omega)) rfl fun _ w271 ⟨xs265,ad266,c267,a268,b269,er,hst263,hle264,K262⟩=>⟨_,er,?_⟩
        have H272:=H270.callL K262
        refine qt (x_field (o:=0) T.fa32_1 rfl)<|?_
        refine st_s<|Est (v:=.slice ad266 xs265.length c267) H272 2 T.sz30 rfl rfl rfl rfl rfl rfl fun w273 H274=>nl<|k261 _ _<|?_
        refine sr fun Q275 k276=>qt (x_loadA [.string s100,.slice ad266 xs265.length c267] T.ag32 rfl (H274.lds 2 rfl 0 [.string s100,.slice ad266 xs265.length c267] rfl))<|qt (v:=.agg #[.int .i64 ((1:Nat):Int),.string s100,.slice ad266 xs265.length c267,.bool false,.string ByteArray.empty,.bool false,.string ByteArray.empty]) (x_build (fun _=>by kernel_rfl))<|?_
        refine st_s<|Est (v:=.agg #[.int .i64 ((1:Nat):Int),.string s100,.slice ad266 xs265.length c267,.bool false,.string ByteArray.empty,.bool false,.string ByteArray.empty]) H274 3 T.sz37 rfl rfl rfl rfl rfl rfl fun w277 H278=>nl<|k276 _ _<|ret<|leaveC (P:=Tryz.prog) (fn:=Tryz.f119) (t:=2) (T:=37) (b:=b3) (o:=0) (cs:=[.int .i64 ((1:Nat):Int),.string s100,.slice ad266 xs265.length c267,.bool false,.string ByteArray.empty,.bool false,.string ByteArray.empty]) rfl T.ag37 rfl (H278.lds 3 rfl 0 [.int .i64 ((1:Nat):Int),.string s100,.slice ad266 xs265.length c267,.bool false,.string ByteArray.empty,.bool false,.string ByteArray.empty] rfl) ?_
        exact ⟨(⟨1,s100,xs265,Tm0,Tm0⟩,(ad266,c267)),a268,b269,rfl,lit_7 (Decidable.of_not_not (by assumption)) hst98 h123 (by assumption) hst221 (by omega) hst263,by omega,(H278.pick [0,1] (by decide))⟩
end Go.Proofs.YtljfgmedbjlkaaaGreat
namespace Go.Proofs.YtljfgmedbjlkaaaGreat
open Go.RowKit Go.Eng Go.QP
theorem T.cf119:CF Tryz.prog 119:=fun _ _=>by kernel_rfl
theorem T.sl23:SL Tryz.prog 23 37 7 96 (.agg #[.int .i64 ((0:Nat):Int),.string ByteArray.empty,.slice none 0 0,.bool false,.string ByteArray.empty,.bool false,.string ByteArray.empty]):=sl_mk Tryz.underlying23 (by kernel_rfl) rfl (by decide)
section
variable {S:Nat→Prop} {w0 w:World}
theorem famLen {c d:Ch} {rows:List Rw} {x:Rw} (H:Hp S w0 w [c,d,cF (rows.length+1) fun k=>pL (el (rows++[x]) k)]):Hp S w0 w [c,d,cF (rows++[x]).length fun k=>pL (el (rows++[x]) k)]:=by rw [List.length_append];exact H
theorem bdEnd {c:Ch} {rows:List Rw} {a:Option Addr} {m cc:Nat} {n:Nat} {f:Nat→Ch} (H:Hp S w0 w [c,cQ 37 eL a m cc rows,cF n f]) (hm:m=rows.length):Hp S w0 w [c,cQ 37 eL a rows.length cc rows,cF n f]:=by subst hm;exact H
end
theorem body62 (t:ByteArray) (S:Nat→Prop) (bb a:Nat) (bd:Bool) (w0:World) (Hx:Hp S w0 w0 [RdC bb t a bd]) (hs:t.size≤68719476736) (ha:a≤t.size) :
  Calls Tryz.prog 62 #[.pointer (some ⟨bb,0,none⟩)] w0 fun e w'=>∃ (rows:List Rw) (aq:Option Addr) (cq a':Nat) (b':Bool),e= .returned (.slice aq rows.length cq)∧Stp (bodyA t a) bd a (rows.map (fun z:Rw=>z.1)) a' b'∧a'≤t.size∧Hp S w0 w' [RdC bb t a' b',cQ 37 eL aq rows.length cq rows,cF rows.length fun k=>pL (el rows k)]:=by
 have H0:Hp S w0 w0 [RdC bb t a bd]:=Hx
 refine enter Tryz.func62 rfl 67 Tryz.ntmps62 rfl<|?_
 refine sr fun Q1 k2=>qt asg<|nl<|k2 _ _<|?_
 refine sr fun Q3 k4=>qt mv<|?_
 have H10:Hp S w0 w0 ([RdC bb t a bd]++[]):=(H0.pick [0] (by decide))
 refine cl T.cf60 (skip60 t _ bb a bd _ H10.startL hs (by omega)) rfl fun _ w11 ⟨a8,b9,er,hst6,hle7,K5⟩=>⟨_,er,?_⟩
 have H12:=H10.callL K5
 refine nl<|k4 _ _<|?_
 refine sr fun Q13 k14=>qt asg<|nl<|k14 _ _<|seqK fun Q15 kn16 kr17 ke18=>?_
 refine sr fun Q19 k20=>qt mv<|qt (x_nilCheck rfl)<|qt (x_field (o:=0) T.fa130_2 rfl)<|qt (x_load1 T.na4 rfl (H12.ld 0 rfl 2 rfl))<|qt (x_notP rfl)<|st_if (p:=¬ (b9=true)) (x_move rfl) (fun h21=>?_) (fun h21=>?_)
 ·refine st_gq 5 11 rfl rfl (by decide)<|qt mv<|st_gq 5 11 rfl rfl (by decide)<|?_
  have H23:Hp S w0 w11 ([RdC bb t a8 b9]++[]):=(H12.pick [0] (by decide))
  refine cl T.cf115 (peek115 t _ bb a8 b9 _ H23.startL hs (by omega)) rfl fun _ w24 ⟨er,K22⟩=>⟨_,er,?_⟩
  have H25:=H23.callL K22
  refine st_gq 5 11 rfl rfl (by decide)<|qt (x_eqlN (b:=58) rfl rfl)<|qt (pkT rfl)<|nl<|k20 _ _<|cnd (p:=(pk t a8)=58) rfl (fun h26=>?_) (fun h26=>?_)
  ·refine sr fun Q27 k28=>qt mv<|qt (x_nilCheck rfl)<|qt (x_field (o:=0) T.fa130_1 rfl)<|qt (x_load1 T.na3 rfl (H25.ld 0 rfl 1 rfl))<|qt (addN (b:=1) rfl rfl)<|qt (x_nilCheck rfl)<|qt (x_field (o:=0) T.fa130_1 rfl)<|?_
   refine st_s<|Est (v:=.int .i64 (((a8+1):Nat):Int)) H25 0 T.sz3 rfl rfl rfl rfl rfl rfl fun w29 H30=>nl<|k28 _ _<|?_
   refine sr fun Q31 k32=>qt mv<|?_
   have hlt58:=pk_size (t:=t) (a:=a8) (c:=58) (by omega) (by decide)
   have H38:Hp S w0 w29 ([RdC bb t (a8+1) b9]++[]):=(H30.pick [0] (by decide))
   refine cl T.cf118 (sign118 t _ bb (a8+1) b9 _ H38.startL hs (by omega) 45 (by decide)) rfl fun _ w39 ⟨a36,b37,er,hst34,hle35,K33⟩=>⟨_,er,?_⟩
   have H40:=H38.callL K33
   refine nl<|k32 _ _<|blockK fun Q41 kn42 kr43 kx44 kb45=>?_
   refine loopK (α:=Nat × Bool × (Option Addr) × Nat × Nat × (List Rw)) (fun x=>[(0,.pointer (some ⟨bb,0,none⟩)),(3,.slice x.2.2.1 x.2.2.2.1 x.2.2.2.2.1)]) (fun x w46=>Hp S w0 w46 [cB bb 130 [.string t,.int .i64 ((x.1:Nat):Int),.bool (decide (x.2.1=true))],cQ 37 eL x.2.2.1 x.2.2.2.1 x.2.2.2.2.1 x.2.2.2.2.2,cF x.2.2.2.2.2.length fun k=>pL (el x.2.2.2.2.2 k)]∧x.2.2.2.1=x.2.2.2.2.2.length∧BdI t (bodyB t a8) x.1 x.2.1 (x.2.2.2.2.2.map (fun z:Rw=>z.1))) (fun x=>t.size-x.1) (a36,b37,none,0,0,[]) ⟨rfl,rfl,trivial⟩ ?_ ?_
   ·refine ⟨(((H40.fnil (fun k=>pL (el ([]:List Rw) k))).nilQ 37 eL).pick [2,0,1] (by decide)),?_⟩
    try dsimp only
    exact ⟨rfl,BdI.start (by assumption) hst34 (by omega)⟩
   ·rintro τ47 ⟨i,bv,a2,m2,c2,rows⟩ w48 ⟨hx49,⟨hm,hq⟩⟩
    try dsimp only at hm hq
    have hz50:=hx49.le
    intro Q51 kn52 kr53 ke54
    dsimp only at hx49 ⊢
    have hi:=hq.1
    have hml:(rows.map (fun z:Rw=>z.1)).length=m2:=by rw [List.length_map,hm]
    have hxl:=hq.2.1
    refine seqK fun Q55 kn56 kr57 ke58=>?_
    refine sr fun Q59 k60=>qt mv<|qt (x_nilCheck rfl)<|qt (x_field (o:=0) T.fa130_2 rfl)<|qt (x_load1 T.na4 rfl (hx49.ld 0 rfl 2 rfl))<|qt (x_notP rfl)<|nl<|k60 _ _<|cnd (p:=¬ (bv=true)) rfl (fun h61=>?_) (fun h61=>?_)
    ·refine skip<|kn56 _ _<|blockK fun Q62 kn63 kr64 kx65 kb66=>?_
     refine sr fun Q67 k68=>qt mv<|?_
     have H74:Hp S w0 w48 ([RdC bb t i bv]++[cQ 37 eL a2 m2 c2 rows,cF rows.length fun k=>pL (el rows k)]):=(hx49.pick [0,1,2] (by decide))
     refine cl T.cf60 (skip60 t _ bb i bv _ H74.startL hs (by omega)) rfl fun _ w75 ⟨a72,b73,er,hst70,hle71,K69⟩=>⟨_,er,?_⟩
     have H76:=H74.callL K69
     refine nl<|k68 _ _<|?_
     refine sr fun Q77 k78=>qt mv<|qt mv<|?_
     have H85:Hp S w0 w75 ([RdC bb t a72 b73]++[cQ 37 eL a2 m2 c2 rows,cF rows.length fun k=>pL (el rows k)]):=(H76.pick [0,1,2] (by decide))
     refine cl T.cf119 (literal119 t _ bb a72 b73 _ H85.startL hs (by omega)) rfl fun _ w86 ⟨x82,a83,b84,er,hst80,hle81,K79⟩=>⟨_,er,?_⟩
     have H87:=H85.callL K79
     refine st_e<|Ebs (cs:=[.int .i64 x82.1.kind,.string x82.1.pred,.slice x82.2.1 x82.1.args.length x82.2.2,.bool (decide (x82.1.left.1=true)),.string x82.1.left.2,.bool (decide (x82.1.right.1=true)),.string x82.1.right.2]) (e:=37) H87 (fun _=>by kernel_rfl) fun b88 w89 H90 x91=>?_
     refine st_e<|EapQ H90 3 T.sl23 rfl rfl rfl (H90.lst (E:=eL) 0 rfl x82 rfl) (by omega) rfl rfl fun a92 c93 w94 H95=>qt asg<|nl<|k78 _ _<|?_
     refine sr fun Q96 k97=>qt mv<|?_
     have H103:Hp S w0 w94 ([RdC bb t a83 b84]++[cB b88 37 [.int .i64 x82.1.kind,.string x82.1.pred,.slice x82.2.1 x82.1.args.length x82.2.2,.bool (decide (x82.1.left.1=true)),.string x82.1.left.2,.bool (decide (x82.1.right.1=true)),.string x82.1.right.2],cQ 35 eT x82.2.1 x82.1.args.length x82.2.2 x82.1.args,cQ 37 eL a92 (m2+1) c93 (rows++[x82]),cF rows.length fun k=>pL (el rows k)]):=(H95.pick [1,0,2,3,4] (by decide))
     refine cl T.cf60 (skip60 t _ bb a83 b84 _ H103.startL hs (by omega)) rfl fun _ w104 ⟨a101,b102,er,hst99,hle100,K98⟩=>⟨_,er,?_⟩
     have H105:=H103.callL K98
     refine nl<|k97 _ _<|seqK fun Q106 kn107 kr108 ke109=>?_
     refine sr fun Q110 k111=>qt mv<|qt (x_nilCheck rfl)<|qt (x_field (o:=0) T.fa130_2 rfl)<|qt (x_load1 T.na4 rfl (H105.ld 0 rfl 2 rfl))<|st_if (p:=b102=true) (x_move rfl) (fun h112=>?_) (fun h112=>?_)
     ·refine st_gn 4 43 rfl rfl (by decide) rfl<|st_gn 4 43 rfl rfl (by decide) rfl<|st_gn 4 43 rfl rfl (by decide) rfl<|qt (pkT rfl)<|nl<|k111 _ _<|cndT rfl<|exit<|ke109 _ _ _<|kx65 _ _ _ rfl<|ke54 _ _ _<|kb45 _ _<|kn16 _ _<|?_
      refine sr fun Q113 k114=>qt mv<|?_
      have H120:Hp S w0 w104 ([RdC bb t a101 b102]++[cB b88 37 [.int .i64 x82.1.kind,.string x82.1.pred,.slice x82.2.1 x82.1.args.length x82.2.2,.bool (decide (x82.1.left.1=true)),.string x82.1.left.2,.bool (decide (x82.1.right.1=true)),.string x82.1.right.2],cQ 35 eT x82.2.1 x82.1.args.length x82.2.2 x82.1.args,cQ 37 eL a92 (m2+1) c93 (rows++[x82]),cF rows.length fun k=>pL (el rows k)]):=(H105.pick [0,1,2,3,4] (by decide))
      refine cl T.cf118 (sign118 t _ bb a101 b102 _ H120.startL hs (by omega) 46 (by decide)) rfl fun _ w121 ⟨a118,b119,er,hst116,hle117,K115⟩=>⟨_,er,?_⟩
      have H122:=H120.callL K115
      refine nl<|k114 _ _<|?_
      refine sr fun Q123 k124=>qt mv<|qt asg<|nl<|k124 _ _<|ret<|leave1 (P:=Tryz.prog) (fn:=Tryz.f62) (t:=2) (v:=.slice a92 (m2+1) c93) rfl rfl<|?_
      have hA:=BdI.exit hq (by assumption) hst70 hst80 hst99 (by first | exact .inl (by assumption) | exact .inr (by omega))
      have hm3:(m2+1)=((rows++[x82])).length:=by rw [List.length_append,hm];rfl
      exact ⟨(rows++[x82]),a92,c93,a118,b119,by rw [← hm3],by rw [List.map_append];exact body_fin hst6 (body_in (by assumption) (by assumption) (by omega) hA) hst116,by omega,bdEnd (famLen (Hp.push1G (i:=2) (p:=pL) (u:=x82) (H122.pick [2,0,3,4] (by decide)) rfl rfl rfl)) hm3⟩
     ·refine st_gq 4 43 rfl rfl (by decide)<|qt mv<|st_gq 4 43 rfl rfl (by decide)<|?_
      have H126:Hp S w0 w104 ([RdC bb t a101 b102]++[cB b88 37 [.int .i64 x82.1.kind,.string x82.1.pred,.slice x82.2.1 x82.1.args.length x82.2.2,.bool (decide (x82.1.left.1=true)),.string x82.1.left.2,.bool (decide (x82.1.right.1=true)),.string x82.1.right.2],cQ 35 eT x82.2.1 x82.1.args.length x82.2.2 x82.1.args,cQ 37 eL a92 (m2+1) c93 (rows++[x82]),cF rows.length fun k=>pL (el rows k)]):=(H105.pick [0,1,2,3,4] (by decide))
      refine cl T.cf115 (peek115 t _ bb a101 b102 _ H126.startL hs (by omega)) rfl fun _ w127 ⟨er,K125⟩=>⟨_,er,?_⟩
      have H128:=H126.callL K125
      refine st_gq 4 43 rfl rfl (by decide)<|qt (x_neqN (b:=44) rfl rfl)<|qt (pkF rfl)<|nl<|k111 _ _<|cnd (p:=(pk t a101)≠44) rfl (fun h129=>?_) (fun h129=>?_)
      ·refine exit<|ke109 _ _ _<|kx65 _ _ _ rfl<|ke54 _ _ _<|kb45 _ _<|kn16 _ _<|?_
       refine sr fun Q130 k131=>qt mv<|?_
       have H137:Hp S w0 w127 ([RdC bb t a101 b102]++[cB b88 37 [.int .i64 x82.1.kind,.string x82.1.pred,.slice x82.2.1 x82.1.args.length x82.2.2,.bool (decide (x82.1.left.1=true)),.string x82.1.left.2,.bool (decide (x82.1.right.1=true)),.string x82.1.right.2],cQ 35 eT x82.2.1 x82.1.args.length x82.2.2 x82.1.args,cQ 37 eL a92 (m2+1) c93 (rows++[x82]),cF rows.length fun k=>pL (el rows k)]):=(H128.pick [0,1,2,3,4] (by decide))
       refine cl T.cf118 (sign118 t _ bb a101 b102 _ H137.startL hs (by omega) 46 (by decide)) rfl fun _ w138 ⟨a135,b136,er,hst133,hle134,K132⟩=>⟨_,er,?_⟩
       have H139:=H137.callL K132
       refine nl<|k131 _ _<|?_
       refine sr fun Q140 k141=>qt mv<|qt asg<|nl<|k141 _ _<|ret<|leave1 (P:=Tryz.prog) (fn:=Tryz.f62) (t:=2) (v:=.slice a92 (m2+1) c93) rfl rfl<|?_
       have hA:=BdI.exit hq (by assumption) hst70 hst80 hst99 (by first | exact .inl (by assumption) | exact .inr (by omega))
       have hm3:(m2+1)=((rows++[x82])).length:=by rw [List.length_append,hm];rfl
       exact ⟨(rows++[x82]),a92,c93,a135,b136,by rw [← hm3],by rw [List.map_append];exact body_fin hst6 (body_in (by assumption) (by assumption) (by omega) hA) hst133,by omega,bdEnd (famLen (Hp.push1G (i:=2) (p:=pL) (u:=x82) (H139.pick [2,0,3,4] (by decide)) rfl rfl rfl)) hm3⟩
      ·refine skip<|kn107 _ _<|seqK fun Q142 kn143 kr144 ke145=>?_
       refine sr fun Q146 k147=>qt mv<|qt (x_lenSl rfl Tryz.underlying23 rfl)<|qt (x_eqlN (b:=256) rfl rfl)<|nl<|k147 _ _<|cnd (p:=(m2+1)=256) rfl (fun h148=>?_) (fun h148=>?_)
       ·refine sr fun Q149 k150=>qt mv<|qt mv<|qt (x_nilCheck rfl)<|qt (x_field (o:=0) T.fa130_1 rfl)<|qt (x_load1 T.na3 rfl (H128.ld 0 rfl 1 rfl))<|?_
        have H152:Hp S w0 w127 ([RdC bb t a101 b102]++[cB b88 37 [.int .i64 x82.1.kind,.string x82.1.pred,.slice x82.2.1 x82.1.args.length x82.2.2,.bool (decide (x82.1.left.1=true)),.string x82.1.left.2,.bool (decide (x82.1.right.1=true)),.string x82.1.right.2],cQ 35 eT x82.2.1 x82.1.args.length x82.2.2 x82.1.args,cQ 37 eL a92 (m2+1) c93 (rows++[x82]),cF rows.length fun k=>pL (el rows k)]):=(H128.pick [0,1,2,3,4] (by decide))
        refine cl T.cf64 (stop64 t _ bb a101 b102 _ H152.startL hs (by omega)) rfl fun _ w153 ⟨er,K151⟩=>⟨_,er,?_⟩
        have H154:=H152.callL K151
        refine nl<|k150 _ _<|exit<|ke145 _ _ _<|kx65 _ _ _ rfl<|ke54 _ _ _<|kb45 _ _<|kn16 _ _<|?_
        refine sr fun Q155 k156=>qt mv<|?_
        have H162:Hp S w0 w153 ([RdC bb t a101 true]++[cB b88 37 [.int .i64 x82.1.kind,.string x82.1.pred,.slice x82.2.1 x82.1.args.length x82.2.2,.bool (decide (x82.1.left.1=true)),.string x82.1.left.2,.bool (decide (x82.1.right.1=true)),.string x82.1.right.2],cQ 35 eT x82.2.1 x82.1.args.length x82.2.2 x82.1.args,cQ 37 eL a92 (m2+1) c93 (rows++[x82]),cF rows.length fun k=>pL (el rows k)]):=(H154.pick [0,1,2,3,4] (by decide))
        refine cl T.cf118 (sign118 t _ bb a101 true _ H162.startL hs (by omega) 46 (by decide)) rfl fun _ w163 ⟨a160,b161,er,hst158,hle159,K157⟩=>⟨_,er,?_⟩
        have H164:=H162.callL K157
        refine nl<|k156 _ _<|?_
        refine sr fun Q165 k166=>qt mv<|qt asg<|nl<|k166 _ _<|ret<|leave1 (P:=Tryz.prog) (fn:=Tryz.f62) (t:=2) (v:=.slice a92 (m2+1) c93) rfl rfl<|?_
        have hA:=BdI.full hq (by assumption) hst70 hst80 hst99 (by omega) (by omega)
        have hm3:(m2+1)=((rows++[x82])).length:=by rw [List.length_append,hm];rfl
        exact ⟨(rows++[x82]),a92,c93,a160,b161,by rw [← hm3],by rw [List.map_append];exact body_fin hst6 (body_in (by assumption) (by assumption) (by omega) hA) hst158,by omega,bdEnd (famLen (Hp.push1G (i:=2) (p:=pL) (u:=x82) (H164.pick [2,0,3,4] (by decide)) rfl rfl rfl)) hm3⟩
       ·refine skip<|kn143 _ _<|region<|qt mv<|qt (x_nilCheck rfl)<|qt (x_field (o:=0) T.fa130_1 rfl)<|qt (x_load1 T.na3 rfl (H128.ld 0 rfl 1 rfl))<|qt (addN (b:=1) rfl rfl)<|qt (x_nilCheck rfl)<|qt (x_field (o:=0) T.fa130_1 rfl)<|?_
        refine st_s<|Est (v:=.int .i64 (((a101+1):Nat):Int)) H128 0 T.sz3 rfl rfl rfl rfl rfl rfl fun w167 H168=>nl<|kn63 _ _<|?_
        refine kn52 _ ((a101+1),b102,a92,(m2+1),c93,(rows++[x82])) _ ⟨rfl,rfl,trivial⟩ ⟨(famLen (Hp.push1G (i:=2) (p:=pL) (u:=x82) (H168.pick [2,0,3,4] (by decide)) rfl rfl rfl)),?_⟩ ?_
        ·try dsimp only
         exact ⟨by rw [List.length_append,hm];rfl,by rw [List.map_append];exact (BdI.next hq (by assumption) hst70 hst80 hst99 (by assumption) (by omega) (by omega)).1⟩
        ·have h9:=(BdI.next hq (by assumption) hst70 hst80 hst99 (by assumption) (by omega) (by omega)).2
         try dsimp only
         omega
    ·refine exit<|ke58 _ _ _<|ke54 _ _ _<|kb45 _ _<|kn16 _ _<|?_
     refine sr fun Q169 k170=>qt mv<|?_
     have H176:Hp S w0 w48 ([RdC bb t i bv]++[cQ 37 eL a2 m2 c2 rows,cF rows.length fun k=>pL (el rows k)]):=(hx49.pick [0,1,2] (by decide))
     refine cl T.cf118 (sign118 t _ bb i bv _ H176.startL hs (by omega) 46 (by decide)) rfl fun _ w177 ⟨a174,b175,er,hst172,hle173,K171⟩=>⟨_,er,?_⟩
     have H178:=H176.callL K171
     refine nl<|k170 _ _<|?_
     refine sr fun Q179 k180=>qt mv<|qt asg<|nl<|k180 _ _<|ret<|leave1 (P:=Tryz.prog) (fn:=Tryz.f62) (t:=2) (v:=.slice a2 m2 c2) rfl rfl<|?_
     have hbv:bv=true:=by first | assumption | simp_all
     exact ⟨rows,a2,c2,a174,b175,by rw [← hm],body_fin hst6 (body_in (bv:=false) (i:=0) (by assumption) (by decide) (by omega) (BdI.stop hq hbv (by decide))) hst172,by omega,bdEnd (H178.pick [0,1,2] (by decide)) hm⟩
  ·refine skip<|kn16 _ _<|?_
   refine sr fun Q181 k182=>qt mv<|?_
   have H188:Hp S w0 w24 ([RdC bb t a8 b9]++[]):=(H25.pick [0] (by decide))
   refine cl T.cf118 (sign118 t _ bb a8 b9 _ H188.startL hs (by omega) 46 (by decide)) rfl fun _ w189 ⟨a186,b187,er,hst184,hle185,K183⟩=>⟨_,er,?_⟩
   have H190:=H188.callL K183
   refine nl<|k182 _ _<|?_
   refine sr fun Q191 k192=>qt mv<|qt asg<|nl<|k192 _ _<|ret<|leave1 (P:=Tryz.prog) (fn:=Tryz.f62) (t:=2) (v:=.slice none 0 0) rfl rfl<|?_
   exact ⟨[],none,0,a186,b187,rfl,body_fin hst6 (body_no (by first | exact .inr (by omega) | exact .inl (by first | assumption | simp_all))) hst184,by omega,(((H190.fnil (fun k=>pL (el ([]:List Rw) k))).nilQ 37 eL).pick [2,0,1] (by decide))⟩
 ·refine st_gn 5 11 rfl rfl (by decide) rfl<|st_gn 5 11 rfl rfl (by decide) rfl<|st_gn 5 11 rfl rfl (by decide) rfl<|qt (pkF rfl)<|nl<|k20 _ _<|cndF rfl<|skip<|kn16 _ _<|?_
  refine sr fun Q193 k194=>qt mv<|?_
  have H200:Hp S w0 w11 ([RdC bb t a8 b9]++[]):=(H12.pick [0] (by decide))
  refine cl T.cf118 (sign118 t _ bb a8 b9 _ H200.startL hs (by omega) 46 (by decide)) rfl fun _ w201 ⟨a198,b199,er,hst196,hle197,K195⟩=>⟨_,er,?_⟩
  have H202:=H200.callL K195
  refine nl<|k194 _ _<|?_
  refine sr fun Q203 k204=>qt mv<|qt asg<|nl<|k204 _ _<|ret<|leave1 (P:=Tryz.prog) (fn:=Tryz.f62) (t:=2) (v:=.slice none 0 0) rfl rfl<|?_
  exact ⟨[],none,0,a198,b199,rfl,body_fin hst6 (body_no (by first | exact .inr (by omega) | exact .inl (by first | assumption | simp_all))) hst196,by omega,(((H202.fnil (fun k=>pL (el ([]:List Rw) k))).nilQ 37 eL).pick [2,0,1] (by decide))⟩
end Go.Proofs.YtljfgmedbjlkaaaGreat
namespace Go.Proofs.YtljfgmedbjlkaaaGreat
open Go.RowKit Go.Eng Go.QP
theorem T.zv60:ZV Tryz.prog 60 (.agg #[.string ByteArray.empty,.slice none 0 0,.slice none 0 0]):=fun _=>by kernel_rfl
theorem T.sz60:SZ Tryz.prog 60 3:=fun _=>by kernel_rfl
theorem T.fa60_0:FA Tryz.prog 60 0 0:=fun _ _=>by kernel_rfl
theorem T.cf62:CF Tryz.prog 62:=fun _ _=>by kernel_rfl
theorem T.fa60_1:FA Tryz.prog 60 1 2:=fun _ _=>by kernel_rfl
theorem T.sz23:SZ Tryz.prog 23 1:=fun _=>by kernel_rfl
theorem T.ag60:AG Tryz.prog 60 3:=fun _=>⟨by kernel_rfl,by kernel_rfl⟩
theorem Rule23 (t:ByteArray) (w0:World) (hs:t.size≤68719476736) :
  Calls Tryz.prog 23 #[.string t] w0 fun e w'=>(∃ (s:ByteArray) (xs:List Tm) (ad:Option Addr) (c:Nat) (rows:List Rw) (aq:Option Addr) (cq:Nat),e= .returned (.tuple #[.agg #[.string s,.slice ad xs.length c,.slice aq rows.length cq],.int .i64 ((0:Nat):Int),.bool true])∧(∃ p,ruleA t= .ok ((s,xs),rows.map (fun z:Rw=>z.1)) p)∧Hp No w0 w' [cQ 35 eT ad xs.length c xs,cQ 37 eL aq rows.length cq rows,cF rows.length fun k=>pL (el rows k)])∨(∃ n:Nat,e= .returned (.tuple #[.agg #[.string ByteArray.empty,.slice none 0 0,.slice none 0 0],.int .i64 ((n:Nat):Int),.bool false])∧ruleA t= .bad n∧n≤t.size∧Ext w0 w'):=by
 refine enter Tryz.func23 rfl 47 Tryz.ntmps23 rfl<|?_
 refine sr fun Q1 k2=>?_
 refine st_e<|Eal (Hp.start No w0) T.zv60 fun b3 w4 H5 x6=>qt asg<|qt asg<|nl<|k2 _ _<|?_
 refine sr fun Q7 k8=>qt mv<|qt (v:=.agg #[.string t,.int .i64 ((0:Nat):Int),.bool false]) (x_build (fun _=>by kernel_rfl))<|?_
 refine st_e<|Ebx (v:=.agg #[.string t,.int .i64 ((0:Nat):Int),.bool false]) H5 rfl fun b9 w10 H11 x12=>qt asg<|nl<|k8 _ _<|?_
 refine sr fun Q13 k14=>qt mv<|?_
 have H20:Hp No w0 w10 ([cB b9 130 [.string t,.int .i64 ((0:Nat):Int),.bool false]]++[cB b3 60 [.string ByteArray.empty,.slice none 0 0,.slice none 0 0]]):=(H11.pick [0,1] (by decide))
 refine cl T.cf60 (skip60 t _ b9 0 false _ H20.startL hs (by omega)) rfl fun _ w21 ⟨a18,b19,er,hst16,hle17,K15⟩=>⟨_,er,?_⟩
 have H22:=H20.callL K15
 refine nl<|k14 _ _<|?_
 refine sr fun Q23 k24=>qt (v:=.agg #[.string ByteArray.empty,.slice none 0 0,.slice none 0 0]) (x_build (fun _=>by kernel_rfl))<|?_
 refine st_e<|Eal H22 T.zv60 fun b25 w26 H27 x28=>?_
 refine st_s<|Est (v:=.agg #[.string ByteArray.empty,.slice none 0 0,.slice none 0 0]) H27 0 T.sz60 rfl rfl rfl rfl rfl rfl fun w29 H30=>nl<|k24 _ _<|?_
 refine sr fun Q31 k32=>qt mv<|?_
 have H42:Hp No w0 w29 ([RdC b9 t a18 b19]++[cB b25 60 [.string ByteArray.empty,.slice none 0 0,.slice none 0 0],cB b3 60 [.string ByteArray.empty,.slice none 0 0,.slice none 0 0]]):=(H30.pick [1,0,2] (by decide))
 refine cl T.cf61 (atom61 t _ b9 a18 b19 _ H42.startL hs (by omega)) rfl fun _ w43 ⟨s36,xs37,ad38,c39,a40,b41,er,hst34,hle35,K33⟩=>⟨_,er,?_⟩
 have H44:=H42.callL K33
 refine qt (x_field (o:=0) T.fa60_0 rfl)<|?_
 refine st_s<|Est (v:=.agg #[.string s36,.slice ad38 xs37.length c39]) H44 2 T.sz32 rfl rfl rfl rfl rfl rfl fun w45 H46=>nl<|k32 _ _<|?_
 refine sr fun Q47 k48=>qt mv<|?_
 have H57:Hp No w0 w45 ([RdC b9 t a40 b41]++[cQ 35 eT ad38 xs37.length c39 xs37,cB b25 60 [.string s36,.slice ad38 xs37.length c39,.slice none 0 0],cB b3 60 [.string ByteArray.empty,.slice none 0 0,.slice none 0 0]]):=(H46.pick [0,1,2,3] (by decide))
 refine cl T.cf62 (body62 t _ b9 a40 b41 _ H57.startL hs (by omega)) rfl fun _ w58 ⟨rows52,aq53,cq54,a55,b56,er,hst50,hle51,K49⟩=>⟨_,er,?_⟩
 have H59:=H57.callL K49
 refine qt (x_field (o:=0) T.fa60_1 rfl)<|?_
 refine st_s<|Est (v:=.slice aq53 rows52.length cq54) H59 4 T.sz23 rfl rfl rfl rfl rfl rfl fun w60 H61=>nl<|k48 _ _<|?_
 refine sr fun Q62 k63=>qt mv<|?_
 have H69:Hp No w0 w60 ([RdC b9 t a55 b56]++[cQ 37 eL aq53 rows52.length cq54 rows52,cF rows52.length fun k=>pL (el rows52 k),cQ 35 eT ad38 xs37.length c39 xs37,cB b25 60 [.string s36,.slice ad38 xs37.length c39,.slice aq53 rows52.length cq54],cB b3 60 [.string ByteArray.empty,.slice none 0 0,.slice none 0 0]]):=(H61.pick [0,1,2,3,4,5] (by decide))
 refine cl T.cf60 (skip60 t _ b9 a55 b56 _ H69.startL hs (by omega)) rfl fun _ w70 ⟨a67,b68,er,hst65,hle66,K64⟩=>⟨_,er,?_⟩
 have H71:=H69.callL K64
 refine nl<|k63 _ _<|seqK fun Q72 kn73 kr74 ke75=>?_
 refine sr fun Q76 k77=>qt mv<|qt (x_nilCheck rfl)<|qt (x_field (o:=0) T.fa130_2 rfl)<|qt (x_load1 T.na4 rfl (H71.ld 0 rfl 2 rfl))<|qt (x_notP rfl)<|st_if (p:=¬ (b68=true)) (x_move rfl) (fun h78=>?_) (fun h78=>?_)
 ·refine st_gq 5 26 rfl rfl (by decide)<|qt mv<|st_gq 5 26 rfl rfl (by decide)<|?_
  have H80:Hp No w0 w70 ([RdC b9 t a67 b68]++[cQ 37 eL aq53 rows52.length cq54 rows52,cF rows52.length fun k=>pL (el rows52 k),cQ 35 eT ad38 xs37.length c39 xs37,cB b25 60 [.string s36,.slice ad38 xs37.length c39,.slice aq53 rows52.length cq54],cB b3 60 [.string ByteArray.empty,.slice none 0 0,.slice none 0 0]]):=(H71.pick [0,1,2,3,4,5] (by decide))
  refine cl T.cf63 (end63 t _ b9 a67 b68 _ H80.startL hs (by omega)) rfl fun _ w81 ⟨er,K79⟩=>⟨_,er,?_⟩
  have H82:=H80.callL K79
  refine st_gq 5 26 rfl rfl (by decide)<|qt (x_notP rfl)<|qt (pkT rfl)<|nl<|k77 _ _<|cnd (p:=¬ (t.size≤a67)) rfl (fun h83=>?_) (fun h83=>?_)
  ·refine region<|qt mv<|qt mv<|qt (x_nilCheck rfl)<|qt (x_field (o:=0) T.fa130_1 rfl)<|qt (x_load1 T.na3 rfl (H82.ld 0 rfl 1 rfl))<|?_
   have H85:Hp No w0 w81 ([RdC b9 t a67 b68]++[cQ 37 eL aq53 rows52.length cq54 rows52,cF rows52.length fun k=>pL (el rows52 k),cQ 35 eT ad38 xs37.length c39 xs37,cB b25 60 [.string s36,.slice ad38 xs37.length c39,.slice aq53 rows52.length cq54],cB b3 60 [.string ByteArray.empty,.slice none 0 0,.slice none 0 0]]):=(H82.pick [0,1,2,3,4,5] (by decide))
   refine cl T.cf64 (stop64 t _ b9 a67 b68 _ H85.startL hs (by omega)) rfl fun _ w86 ⟨er,K84⟩=>⟨_,er,?_⟩
   have H87:=H85.callL K84
   refine nl<|kn73 _ _<|seqK fun Q88 kn89 kr90 ke91=>?_
   refine sr fun Q92 k93=>qt mv<|qt (x_nilCheck rfl)<|qt (x_field (o:=0) T.fa130_2 rfl)<|qt (x_load1 T.na4 rfl (H87.ld 0 rfl 2 rfl))<|nl<|k93 _ _<|cndY (p:=true=true) rfl (not_not_intro rfl)<|seqK fun Q94 kn95 kr96 ke97=>regionD1 [] [0,1,2,3,6,7] (.one 0 (.one 1 (.one 2 (.one 3 (.two 4 (.one 5 (.one 6 (.one 7 .done))) 5 (.one 4 (.one 6 (.one 7 .done)))))))) (by kernel_rfl) (by kernel_rfl) fun w98 x99 s100=>?_
   have H101:=H87.ext x99
   have S102:Ext w98 w98:=Below.refl _ _
   refine d_q (v:=.agg #[.string ByteArray.empty,.slice none 0 0,.slice none 0 0]) rfl rfl (fun _=>x_build (fun _=>by kernel_rfl))<|d_q rfl rfl (fun _=>mv)<|d_q rfl rfl (fun _=>x_nilCheck rfl)<|d_q rfl rfl (fun _=>x_field (o:=0) T.fa130_1 rfl)<|d_two ?_ ?_
   ·refine id<|d_e' rfl rfl<|eff_ex (x_load1 T.na3 rfl (H101.ld 0 rfl 1 rfl))<|⟨fun _=>S102,?_⟩
    refine d_e (by decide)<|d_s' rfl rfl<|Est (v:=.agg #[.string ByteArray.empty,.slice none 0 0,.slice none 0 0]) H101 5 T.sz60 rfl rfl rfl rfl rfl rfl fun w103 H104=>⟨need_no (by kernel_rfl),?_⟩
    refine d_q rfl rfl (fun _=>asg)<|d_q rfl rfl (fun _=>asg)<|d_done<|kn95 _ _<|ret<|kr90 _ _<|leaveCTT (P:=Tryz.prog) (fn:=Tryz.f23) (u:=2) (T:=60) (b:=b3) (o:=0) (s:=3) (r:=4) (cs:=[.string ByteArray.empty,.slice none 0 0,.slice none 0 0]) (v':=.int .i64 ((a67:Nat):Int)) (v'':=.bool false) rfl T.ag60 rfl (H104.lds 5 rfl 0 [.string ByteArray.empty,.slice none 0 0,.slice none 0 0] rfl) rfl rfl ?_
    have hR:=rule_stp hst16 hst34 hst50 hst65
    exact .inr ⟨a67,rfl,by first | exact rule_b1 hR (by assumption) | exact rule_b2 hR (by assumption) (by omega),by omega,H104.x⟩
   ·refine id<|d_s' rfl rfl<|Est (v:=.agg #[.string ByteArray.empty,.slice none 0 0,.slice none 0 0]) H101 5 T.sz60 rfl rfl rfl rfl rfl rfl fun w105 H106=>⟨need_no (by kernel_rfl),?_⟩
    refine d_e (by decide)<|d_e' rfl rfl<|eff_ex (x_load1 T.na3 rfl (H106.ld 0 rfl 1 rfl))<|⟨need_no (by kernel_rfl),?_⟩
    refine d_q rfl rfl (fun _=>asg)<|d_q rfl rfl (fun _=>asg)<|d_done<|kn95 _ _<|ret<|kr90 _ _<|leaveCTT (P:=Tryz.prog) (fn:=Tryz.f23) (u:=2) (T:=60) (b:=b3) (o:=0) (s:=3) (r:=4) (cs:=[.string ByteArray.empty,.slice none 0 0,.slice none 0 0]) (v':=.int .i64 ((a67:Nat):Int)) (v'':=.bool false) rfl T.ag60 rfl (H106.lds 5 rfl 0 [.string ByteArray.empty,.slice none 0 0,.slice none 0 0] rfl) rfl rfl ?_
    have hR:=rule_stp hst16 hst34 hst50 hst65
    exact .inr ⟨a67,rfl,by first | exact rule_b1 hR (by assumption) | exact rule_b2 hR (by assumption) (by omega),by omega,H106.x⟩
  ·refine skip<|kn73 _ _<|seqK fun Q107 kn108 kr109 ke110=>?_
   refine sr fun Q111 k112=>qt mv<|qt (x_nilCheck rfl)<|qt (x_field (o:=0) T.fa130_2 rfl)<|qt (x_load1 T.na4 rfl (H82.ld 0 rfl 2 rfl))<|nl<|k112 _ _<|cnd (p:=b68=true) rfl (fun h113=>?_) (fun h113=>?_)
   ·refine seqK fun Q114 kn115 kr116 ke117=>regionD1 [] [0,1,2,3,6,7] (.one 0 (.one 1 (.one 2 (.one 3 (.two 4 (.one 5 (.one 6 (.one 7 .done))) 5 (.one 4 (.one 6 (.one 7 .done)))))))) (by kernel_rfl) (by kernel_rfl) fun w118 x119 s120=>?_
    have H121:=H82.ext x119
    have S122:Ext w118 w118:=Below.refl _ _
    refine d_q (v:=.agg #[.string ByteArray.empty,.slice none 0 0,.slice none 0 0]) rfl rfl (fun _=>x_build (fun _=>by kernel_rfl))<|d_q rfl rfl (fun _=>mv)<|d_q rfl rfl (fun _=>x_nilCheck rfl)<|d_q rfl rfl (fun _=>x_field (o:=0) T.fa130_1 rfl)<|d_two ?_ ?_
    ·refine id<|d_e' rfl rfl<|eff_ex (x_load1 T.na3 rfl (H121.ld 0 rfl 1 rfl))<|⟨fun _=>S122,?_⟩
     refine d_e (by decide)<|d_s' rfl rfl<|Est (v:=.agg #[.string ByteArray.empty,.slice none 0 0,.slice none 0 0]) H121 5 T.sz60 rfl rfl rfl rfl rfl rfl fun w123 H124=>⟨need_no (by kernel_rfl),?_⟩
     refine d_q rfl rfl (fun _=>asg)<|d_q rfl rfl (fun _=>asg)<|d_done<|kn115 _ _<|ret<|kr109 _ _<|leaveCTT (P:=Tryz.prog) (fn:=Tryz.f23) (u:=2) (T:=60) (b:=b3) (o:=0) (s:=3) (r:=4) (cs:=[.string ByteArray.empty,.slice none 0 0,.slice none 0 0]) (v':=.int .i64 ((a67:Nat):Int)) (v'':=.bool false) rfl T.ag60 rfl (H124.lds 5 rfl 0 [.string ByteArray.empty,.slice none 0 0,.slice none 0 0] rfl) rfl rfl ?_
     have hR:=rule_stp hst16 hst34 hst50 hst65
     exact .inr ⟨a67,rfl,by first | exact rule_b1 hR (by assumption) | exact rule_b2 hR (by assumption) (by omega),by omega,H124.x⟩
    ·refine id<|d_s' rfl rfl<|Est (v:=.agg #[.string ByteArray.empty,.slice none 0 0,.slice none 0 0]) H121 5 T.sz60 rfl rfl rfl rfl rfl rfl fun w125 H126=>⟨need_no (by kernel_rfl),?_⟩
     refine d_e (by decide)<|d_e' rfl rfl<|eff_ex (x_load1 T.na3 rfl (H126.ld 0 rfl 1 rfl))<|⟨need_no (by kernel_rfl),?_⟩
     refine d_q rfl rfl (fun _=>asg)<|d_q rfl rfl (fun _=>asg)<|d_done<|kn115 _ _<|ret<|kr109 _ _<|leaveCTT (P:=Tryz.prog) (fn:=Tryz.f23) (u:=2) (T:=60) (b:=b3) (o:=0) (s:=3) (r:=4) (cs:=[.string ByteArray.empty,.slice none 0 0,.slice none 0 0]) (v':=.int .i64 ((a67:Nat):Int)) (v'':=.bool false) rfl T.ag60 rfl (H126.lds 5 rfl 0 [.string ByteArray.empty,.slice none 0 0,.slice none 0 0] rfl) rfl rfl ?_
     have hR:=rule_stp hst16 hst34 hst50 hst65
     exact .inr ⟨a67,rfl,by first | exact rule_b1 hR (by assumption) | exact rule_b2 hR (by assumption) (by omega),by omega,H126.x⟩
   ·refine skip<|kn108 _ _<|?_
    refine sr fun Q127 k128=>qt (x_loadA [.string s36,.slice ad38 xs37.length c39,.slice aq53 rows52.length cq54] T.ag60 rfl (H82.lds 4 rfl 0 [.string s36,.slice ad38 xs37.length c39,.slice aq53 rows52.length cq54] rfl))<|?_
    refine st_s<|Est (v:=.agg #[.string s36,.slice ad38 xs37.length c39,.slice aq53 rows52.length cq54]) H82 5 T.sz60 rfl rfl rfl rfl rfl rfl fun w129 H130=>qt asg<|qt asg<|nl<|k128 _ _<|ret<|leaveCTT (P:=Tryz.prog) (fn:=Tryz.f23) (u:=2) (T:=60) (b:=b3) (o:=0) (s:=3) (r:=4) (cs:=[.string s36,.slice ad38 xs37.length c39,.slice aq53 rows52.length cq54]) (v':=.int .i64 ((0:Nat):Int)) (v'':=.bool true) rfl T.ag60 rfl (H130.lds 5 rfl 0 [.string s36,.slice ad38 xs37.length c39,.slice aq53 rows52.length cq54] rfl) rfl rfl ?_
    have hR:=rule_stp hst16 hst34 hst50 hst65
    exact .inl ⟨s36,xs37,ad38,c39,rows52,aq53,cq54,rfl,⟨a67,by first | exact rule_k hR (by assumption) (by omega) | exact absurd (by assumption) h78⟩,(H130.pick [3,1,2] (by decide))⟩
 ·refine st_gn 5 26 rfl rfl (by decide) rfl<|st_gn 5 26 rfl rfl (by decide) rfl<|st_gn 5 26 rfl rfl (by decide) rfl<|qt (pkF rfl)<|nl<|k77 _ _<|cndF rfl<|skip<|kn73 _ _<|seqK fun Q131 kn132 kr133 ke134=>?_
  refine sr fun Q135 k136=>qt mv<|qt (x_nilCheck rfl)<|qt (x_field (o:=0) T.fa130_2 rfl)<|qt (x_load1 T.na4 rfl (H71.ld 0 rfl 2 rfl))<|nl<|k136 _ _<|cnd (p:=b68=true) rfl (fun h137=>?_) (fun h137=>?_)
  ·refine seqK fun Q138 kn139 kr140 ke141=>regionD1 [] [0,1,2,3,6,7] (.one 0 (.one 1 (.one 2 (.one 3 (.two 4 (.one 5 (.one 6 (.one 7 .done))) 5 (.one 4 (.one 6 (.one 7 .done)))))))) (by kernel_rfl) (by kernel_rfl) fun w142 x143 s144=>?_
   have H145:=H71.ext x143
   have S146:Ext w142 w142:=Below.refl _ _
   refine d_q (v:=.agg #[.string ByteArray.empty,.slice none 0 0,.slice none 0 0]) rfl rfl (fun _=>x_build (fun _=>by kernel_rfl))<|d_q rfl rfl (fun _=>mv)<|d_q rfl rfl (fun _=>x_nilCheck rfl)<|d_q rfl rfl (fun _=>x_field (o:=0) T.fa130_1 rfl)<|d_two ?_ ?_
   ·refine id<|d_e' rfl rfl<|eff_ex (x_load1 T.na3 rfl (H145.ld 0 rfl 1 rfl))<|⟨fun _=>S146,?_⟩
    refine d_e (by decide)<|d_s' rfl rfl<|Est (v:=.agg #[.string ByteArray.empty,.slice none 0 0,.slice none 0 0]) H145 5 T.sz60 rfl rfl rfl rfl rfl rfl fun w147 H148=>⟨need_no (by kernel_rfl),?_⟩
    refine d_q rfl rfl (fun _=>asg)<|d_q rfl rfl (fun _=>asg)<|d_done<|kn139 _ _<|ret<|kr133 _ _<|leaveCTT (P:=Tryz.prog) (fn:=Tryz.f23) (u:=2) (T:=60) (b:=b3) (o:=0) (s:=3) (r:=4) (cs:=[.string ByteArray.empty,.slice none 0 0,.slice none 0 0]) (v':=.int .i64 ((a67:Nat):Int)) (v'':=.bool false) rfl T.ag60 rfl (H148.lds 5 rfl 0 [.string ByteArray.empty,.slice none 0 0,.slice none 0 0] rfl) rfl rfl ?_
    have hR:=rule_stp hst16 hst34 hst50 hst65
    exact .inr ⟨a67,rfl,by first | exact rule_b1 hR (by assumption) | exact rule_b2 hR (by assumption) (by omega),by omega,H148.x⟩
   ·refine id<|d_s' rfl rfl<|Est (v:=.agg #[.string ByteArray.empty,.slice none 0 0,.slice none 0 0]) H145 5 T.sz60 rfl rfl rfl rfl rfl rfl fun w149 H150=>⟨need_no (by kernel_rfl),?_⟩
    refine d_e (by decide)<|d_e' rfl rfl<|eff_ex (x_load1 T.na3 rfl (H150.ld 0 rfl 1 rfl))<|⟨need_no (by kernel_rfl),?_⟩
    refine d_q rfl rfl (fun _=>asg)<|d_q rfl rfl (fun _=>asg)<|d_done<|kn139 _ _<|ret<|kr133 _ _<|leaveCTT (P:=Tryz.prog) (fn:=Tryz.f23) (u:=2) (T:=60) (b:=b3) (o:=0) (s:=3) (r:=4) (cs:=[.string ByteArray.empty,.slice none 0 0,.slice none 0 0]) (v':=.int .i64 ((a67:Nat):Int)) (v'':=.bool false) rfl T.ag60 rfl (H150.lds 5 rfl 0 [.string ByteArray.empty,.slice none 0 0,.slice none 0 0] rfl) rfl rfl ?_
    have hR:=rule_stp hst16 hst34 hst50 hst65
    exact .inr ⟨a67,rfl,by first | exact rule_b1 hR (by assumption) | exact rule_b2 hR (by assumption) (by omega),by omega,H150.x⟩
  ·refine skip<|kn132 _ _<|?_
   refine sr fun Q151 k152=>qt (x_loadA [.string s36,.slice ad38 xs37.length c39,.slice aq53 rows52.length cq54] T.ag60 rfl (H71.lds 4 rfl 0 [.string s36,.slice ad38 xs37.length c39,.slice aq53 rows52.length cq54] rfl))<|?_
   refine st_s<|Est (v:=.agg #[.string s36,.slice ad38 xs37.length c39,.slice aq53 rows52.length cq54]) H71 5 T.sz60 rfl rfl rfl rfl rfl rfl fun w153 H154=>qt asg<|qt asg<|nl<|k152 _ _<|ret<|leaveCTT (P:=Tryz.prog) (fn:=Tryz.f23) (u:=2) (T:=60) (b:=b3) (o:=0) (s:=3) (r:=4) (cs:=[.string s36,.slice ad38 xs37.length c39,.slice aq53 rows52.length cq54]) (v':=.int .i64 ((0:Nat):Int)) (v'':=.bool true) rfl T.ag60 rfl (H154.lds 5 rfl 0 [.string s36,.slice ad38 xs37.length c39,.slice aq53 rows52.length cq54] rfl) rfl rfl ?_
   have hR:=rule_stp hst16 hst34 hst50 hst65
   exact .inl ⟨s36,xs37,ad38,c39,rows52,aq53,cq54,rfl,⟨a67,by first | exact rule_k hR (by assumption) (by omega) | exact absurd (by assumption) h78⟩,(H154.pick [3,1,2] (by decide))⟩
end Go.Proofs.YtljfgmedbjlkaaaGreat
namespace Go.Proofs.YtljfgmedbjlkaaaGreat
open Go.RowKit Go.Eng Go.QP
theorem blanks24 (t:ByteArray) (w0:World) (hs:t.size≤68719476736) :
  Calls Tryz.prog 24 #[.string t] w0 fun e w'=>e= .returned (.int .i64 ((blankP (bl t) false 0:Nat):Int))∧w0=w':=by
 refine enter Tryz.func24 rfl 38 Tryz.ntmps24 rfl<|?_
 refine sr fun Q1 k2=>qt asg<|nl<|k2 _ _<|?_
 refine sr fun Q3 k4=>qt asg<|nl<|k4 _ _<|seqK fun Q5 kn6 kr7 ke8=>?_
 refine sr fun Q9 k10=>qt asg<|nl<|k10 _ _<|blockK fun Q11 kn12 kr13 kx14 kb15=>?_
 refine loopK (α:=Nat × Bool) (fun x=>[(0,.string t),(3,.bool x.2),(4,.int .i64 ((x.1:Nat):Int))]) (fun x w16=>w0=w16∧x.1≤t.size∧blankP ((bl t).drop x.1) x.2 x.1=blankP (bl t) false 0) (fun x=>t.size-x.1) (0,false) ⟨rfl,rfl,rfl,trivial⟩ ?_ ?_
 ·refine ⟨rfl,?_⟩
  try dsimp only
  exact ⟨by omega,rfl⟩
 ·rintro τ17 ⟨i,rm⟩ w18 ⟨rfl,⟨hi,hq⟩⟩
  try dsimp only at hi hq
  intro Q19 kn20 kr21 ke22
  refine seqK fun Q23 kn24 kr25 ke26=>?_
  refine sr fun Q27 k28=>qt mv<|qt mv<|qt (x_lenS rfl Tryz.underlying9 rfl)<|qt (x_lssN rfl rfl)<|nl<|k28 _ _<|cnd (p:=i<t.size) rfl (fun h29=>?_) (fun h29=>?_)
  ·refine skip<|kn24 _ _<|seqK fun Q30 kn31 kr32 ke33=>blockK fun Q34 kn35 kr36 kx37 kb38=>blockK fun Q39 kn40 kr41 kx42 kb43=>?_
   refine sr fun Q44 k45=>qt mv<|qt mv<|qt (x_indexS Tryz.underlying9 rfl rfl (by omega))<|qt (x_eqlN (b:=10) rfl rfl)<|qt asg<|nl<|k45 _ _<|cnd (p:=(ch t i)=10) rfl (fun h46=>?_) (fun h46=>?_)
   ·refine region<|qt asg<|nl<|kn40 _ _<|kn35 _ _<|kn31 _ _<|region<|qt mv<|qt (addN (b:=1) rfl rfl)<|qt asg<|nl<|kn20 _ ((i+1),false) _ ⟨rfl,rfl,rfl,trivial⟩ ⟨rfl,?_⟩ ?_
    ·try dsimp only
     exact ⟨by omega,bl_nl hq (by omega) (by assumption)⟩
    ·(try dsimp only);omega
   ·refine seqK fun Q47 kn48 kr49 ke50=>?_
    refine sr fun Q51 k52=>qt (mvB rfl)<|qt asg<|nl<|k52 _ _<|cnd (p:=rm=true) rfl (fun h53=>?_) (fun h53=>?_)
    ·refine skip<|kn48 _ _<|cndY (p:=rm=true) rfl (not_not_intro h53)<|skip<|kn40 _ _<|kn35 _ _<|kn31 _ _<|region<|qt mv<|qt (addN (b:=1) rfl rfl)<|qt asg<|nl<|kn20 _ ((i+1),rm) _ ⟨rfl,rfl,rfl,trivial⟩ ⟨rfl,?_⟩ ?_
     ·try dsimp only
      exact ⟨by omega,bl_rm hq (by omega) (by assumption) h53⟩
     ·(try dsimp only);omega
    ·refine sr fun Q54 k55=>qt mv<|qt mv<|qt (x_indexS Tryz.underlying9 rfl rfl (by omega))<|qt (x_eqlN (b:=32) rfl rfl)<|qt asg<|nl<|k55 _ _<|cnd (p:=(ch t i)=32) rfl (fun h56=>?_) (fun h56=>?_)
     ·refine skip<|kn48 _ _<|cndY (p:=(ch t i)=32) rfl (not_not_intro h56)<|skip<|kn40 _ _<|kn35 _ _<|kn31 _ _<|region<|qt mv<|qt (addN (b:=1) rfl rfl)<|qt asg<|nl<|kn20 _ ((i+1),rm) _ ⟨rfl,rfl,rfl,trivial⟩ ⟨rfl,?_⟩ ?_
      ·try dsimp only
       exact ⟨by omega,bk_b hq (by omega) (Bool.eq_false_iff.2 h53) (by omega) (by omega)⟩
      ·(try dsimp only);omega
     ·refine sr fun Q57 k58=>qt mv<|qt mv<|qt (x_indexS Tryz.underlying9 rfl rfl (by omega))<|qt (x_eqlN (b:=9) rfl rfl)<|qt asg<|nl<|k58 _ _<|cnd (p:=(ch t i)=9) rfl (fun h59=>?_) (fun h59=>?_)
      ·refine skip<|kn48 _ _<|cndY (p:=(ch t i)=9) rfl (not_not_intro h59)<|skip<|kn40 _ _<|kn35 _ _<|kn31 _ _<|region<|qt mv<|qt (addN (b:=1) rfl rfl)<|qt asg<|nl<|kn20 _ ((i+1),rm) _ ⟨rfl,rfl,rfl,trivial⟩ ⟨rfl,?_⟩ ?_
       ·try dsimp only
        exact ⟨by omega,bk_b hq (by omega) (Bool.eq_false_iff.2 h53) (by omega) (by omega)⟩
       ·(try dsimp only);omega
      ·refine region<|qt mv<|qt mv<|qt (x_indexS Tryz.underlying9 rfl rfl (by omega))<|qt (x_eqlN (b:=13) rfl rfl)<|qt asg<|nl<|kn48 _ _<|cnd (p:=(ch t i)=13) rfl (fun h60=>?_) (fun h60=>?_)
       ·refine skip<|kn40 _ _<|kn35 _ _<|kn31 _ _<|region<|qt mv<|qt (addN (b:=1) rfl rfl)<|qt asg<|nl<|kn20 _ ((i+1),rm) _ ⟨rfl,rfl,rfl,trivial⟩ ⟨rfl,?_⟩ ?_
        ·try dsimp only
         exact ⟨by omega,bk_b hq (by omega) (Bool.eq_false_iff.2 h53) (by omega) (by omega)⟩
        ·(try dsimp only);omega
       ·refine sr fun Q61 k62=>qt mv<|qt mv<|qt (x_indexS Tryz.underlying9 rfl rfl (by omega))<|qt (x_eqlN (b:=37) rfl rfl)<|qt asg<|nl<|k62 _ _<|cnd (p:=(ch t i)=37) rfl (fun h63=>?_) (fun h63=>?_)
        ·refine region<|qt asg<|nl<|kn40 _ _<|kn35 _ _<|kn31 _ _<|region<|qt mv<|qt (addN (b:=1) rfl rfl)<|qt asg<|nl<|kn20 _ ((i+1),true) _ ⟨rfl,rfl,rfl,trivial⟩ ⟨rfl,?_⟩ ?_
         ·try dsimp only
          exact ⟨by omega,bk_r hq (by omega) (Bool.eq_false_iff.2 h53) (by assumption)⟩
         ·(try dsimp only);omega
        ·exact sr fun Q64 k65=>qt mv<|qt asg<|nl<|k65 _ _<|ret<|kr41 _ _<|kr36 _ _<|kr32 _ _<|kr21 _ _<|kr13 _ _<|kr7 _ _<|leave1 (P:=Tryz.prog) (fn:=Tryz.f24) (t:=2) (v:=.int .i64 ((i:Nat):Int)) rfl rfl<|⟨congrArg (fun z:Nat=>Ending.returned (.int .i64 (z:Int))) (by first | exact bk_e hq (by omega) | exact (bk_e hq (by omega))▸(by omega) | exact bk_o hq (by omega) (Bool.eq_false_iff.2 h53) (by assumption) (by omega)),rfl⟩
  ·refine exit<|ke26 _ _ _<|ke22 _ _ _<|kb15 _ _<|kn6 _ _<|?_
   exact sr fun Q66 k67=>qt mv<|qt (x_lenS rfl Tryz.underlying9 rfl)<|qt asg<|nl<|k67 _ _<|ret<|leave1 (P:=Tryz.prog) (fn:=Tryz.f24) (t:=2) (v:=.int .i64 ((t.size:Nat):Int)) rfl rfl<|⟨congrArg (fun z:Nat=>Ending.returned (.int .i64 (z:Int))) (by first | exact bk_e hq (by omega) | exact (bk_e hq (by omega))▸(by omega) | (have h9:=bk_e hq (by omega);omega)),rfl⟩
end Go.Proofs.YtljfgmedbjlkaaaGreat
namespace Go.Proofs.YtljfgmedbjlkaaaGreat
open Go.RowKit Go.Eng Go.QP
theorem T.cf23:CF Tryz.prog 23:=fun _ _=>by kernel_rfl
theorem T.cf24:CF Tryz.prog 24:=fun _ _=>by kernel_rfl
theorem T.na23:NA Tryz.prog 23:=fun _=>by kernel_rfl
theorem ruleQ (u:ByteArray) (w0:World) (hs:u.size≤4096):Calls Tryz.prog 23 #[.string (HQ++u)] w0 fun e w'=>∃ (ok:Bool) (n:Nat) (s:ByteArray) (xs:List Tm) (ad:Option Addr) (c:Nat) (rows:List Rw) (aq:Option Addr) (cq:Nat),e= .returned (.tuple #[.agg #[.string s,.slice ad xs.length c,.slice aq rows.length cq],.int .i64 ((n:Nat):Int),.bool ok])∧(Ru (bl u) ok n (rows.map (fun z:Rw=>z.1))∧n≤4099)∧Hp No w0 w' [cQ 35 eT ad xs.length c xs,cQ 37 eL aq rows.length cq rows,cF rows.length fun k=>pL (el rows k)]:=
 (Rule23 (HQ++u) w0 (by rw [hq_size];omega)).mono fun e w' h=>by
  rcases h with ⟨s,xs,ad,c,rows,aq,cq,he,⟨p,h1⟩,H⟩ | ⟨n,he,h1,h2,x⟩
  ·exact ⟨true,0,s,xs,ad,c,rows,aq,cq,he,⟨Ru.ok_ h1,by omega⟩,H⟩
  ·rw [hq_size] at h2
   exact ⟨false,n,ByteArray.empty,[],none,0,[],none,0,he,⟨Ru.bad_ h1,by omega⟩,(((((Hp.start No w0).ext x).fnil (fun k=>pL (el ([]:List Rw) k))).nilQ 37 eL).nilQ 35 eT)⟩
theorem ruleQ2 (u v:ByteArray) (w0:World) (hs:u.size+v.size≤4096):Calls Tryz.prog 23 #[.string ((HQ++u)++v)] w0 fun e w'=>∃ (ok:Bool) (n:Nat) (s:ByteArray) (xs:List Tm) (ad:Option Addr) (c:Nat) (rows:List Rw) (aq:Option Addr) (cq:Nat),e= .returned (.tuple #[.agg #[.string s,.slice ad xs.length c,.slice aq rows.length cq],.int .i64 ((n:Nat):Int),.bool ok])∧(Ru (bl (u++v)) ok n (rows.map (fun z:Rw=>z.1))∧n≤4099)∧Hp No w0 w' [cQ 35 eT ad xs.length c xs,cQ 37 eL aq rows.length cq rows,cF rows.length fun k=>pL (el rows k)]:=by
 rw [ByteArray.append_assoc]
 exact ruleQ (u++v) w0 (by rw [ByteArray.size_append];omega)
theorem cut_le {t:ByteArray} {a b:Nat}:(t.extract a b).size≤t.size:=by rw [ByteArray.size_extract];omega
theorem RefParse7 (t:ByteArray) (w0:World) (hs:t.size≤1200) :
  Calls Tryz.prog 7 #[.string t] w0 fun e w'=>∃ (ok:Bool) (n:Nat) (rows:List Rw) (aq:Option Addr) (cq:Nat),e= .returned (.tuple #[.slice aq rows.length cq,.int .i64 ((n:Nat):Int),.bool ok])∧((ok=true∧n=0∧refP (bl t)=(some (rows.map (fun z:Rw=>z.1)),0))∨(ok=false∧rows=[]∧refP (bl t)=(none,n)))∧Hp No w0 w' [cQ 37 eL aq rows.length cq rows,cF rows.length fun k=>pL (el rows k)]:=by
 refine enter Tryz.func7 rfl 100 Tryz.ntmps7 rfl<|?_
 refine sr fun Q1 k2=>qt asg<|qt asg<|qt asg<|nl<|k2 _ _<|?_
 refine sr fun Q3 k4=>qt mv<|qt (x_lenS rfl Tryz.underlying9 rfl)<|qt asg<|nl<|k4 _ _<|?_
 refine seqLK (n:=100) (ds:=[]) (α:=Nat) (fun x=>[(0,.string t),(5,.int .i64 ((x:Nat):Int))]) (fun x w5=>Hp No w0 w5 []∧x=farS (bl t) (bl t).length 0∧x≤t.size) ?_ ?_
 ·intro Q6 kn7 kr8 ke9
  refine sr fun Q10 k11=>qt asg<|nl<|k11 _ _<|blockK fun Q12 kn13 kr14 kx15 kb16=>?_
  refine loopK (α:=Nat) (fun x=>[(0,.string t),(5,.int .i64 ((t.size:Nat):Int)),(6,.int .i64 ((x:Nat):Int))]) (fun x w17=>Hp No w0 w17 []∧FaI t x) (fun x=>t.size-x) (0) ⟨rfl,rfl,rfl,trivial⟩ ?_ ?_
  ·refine ⟨((Hp.start No w0).pick [] (by decide)),?_⟩
   try dsimp only
   exact FaI.start
  ·rintro τ18 i w19 ⟨hx20,hfa⟩
   try dsimp only at hfa
   have hz21:=hx20.le
   intro Q22 kn23 kr24 ke25
   have hi:=hfa.1
   refine seqK fun Q26 kn27 kr28 ke29=>?_
   refine sr fun Q30 k31=>qt mv<|qt mv<|qt (x_lenS rfl Tryz.underlying9 rfl)<|qt (x_lssN rfl rfl)<|nl<|k31 _ _<|cnd (p:=i<t.size) rfl (fun h32=>?_) (fun h32=>?_)
   ·refine skip<|kn27 _ _<|seqK fun Q33 kn34 kr35 ke36=>blockK fun Q37 kn38 kr39 kx40 kb41=>?_
    refine sr fun Q42 k43=>qt mv<|qt mv<|qt (addN (b:=1) rfl rfl)<|qt (x_sliceSHi Tryz.underlying9 rfl rfl (by omega))<|qt (x_addS (a:=(ByteArray.mk #[113,58,45])) (b:=(t.extract 0 (i+1))) rfl rfl (by have e1:(ByteArray.mk #[113,58,45]).size=3:=rfl;have e2:(ByteArray.mk #[10,46]).size=2:=rfl;have e3:=cut_le (t:=t) (a:=0) (b:=(i+1));first | omega | (rw [ByteArray.size_append];omega)))<|?_
    refine cl T.cf23 (ruleQ (t.extract 0 (i+1)) _ (by have e3:=cut_le (t:=t) (a:=0) (b:=(i+1));omega)) rfl fun _ w56 ⟨ok44,n45,s46,xs47,ad48,c49,rows50,aq51,cq52,er,⟨hru53,hn55⟩,K54⟩=>⟨_,er,?_⟩
    have H57:=hx20.app' K54
    refine qt mv<|qt (x_extract rfl rfl)<|qt (x_extract rfl rfl)<|qt (x_extract rfl rfl)<|?_
    refine st_e<|Eal H57 T.zv60 fun b58 w59 H60 x61=>?_
    refine st_s<|Est (v:=.agg #[.string s46,.slice ad48 xs47.length c49,.slice aq51 rows50.length cq52]) H60 0 T.sz60 rfl rfl rfl rfl rfl rfl fun w62 H63=>qt asg<|qt asg<|nl<|k43 _ _<|?_
    refine sr fun Q64 k65=>qt (mvB rfl)<|st_if (p:=ok44=true) (x_move rfl) (fun h66=>?_) (fun h66=>?_)
    ·refine st_gq 1 35 rfl rfl (by decide)<|qt mv<|st_gq 1 35 rfl rfl (by decide)<|qt mv<|st_gq 1 35 rfl rfl (by decide)<|qt (x_indexS Tryz.underlying9 rfl rfl (by omega))<|st_gq 1 35 rfl rfl (by decide)<|qt (x_eqlN (b:=46) rfl rfl)<|qt (pkT rfl)<|nl<|k65 _ _<|cnd (p:=(ch t i)=46) rfl (fun h67=>?_) (fun h67=>?_)
     ·refine sr fun Q68 k69=>qt mv<|qt asg<|nl<|k69 _ _<|exit<|kx40 _ _ _ rfl<|ke36 _ _ _<|ke25 _ _ _<|kb16 _ _<|?_
      refine kn7 _ (i) _ ⟨rfl,rfl,trivial⟩ ⟨(H63.pick [] (by decide)),?_⟩
      try dsimp only
      exact ⟨hfa.here (by omega) hru53 (by first | assumption | simp_all) (by omega),by omega⟩
     ·refine skip<|kn38 _ _<|kn34 _ _<|region<|qt mv<|qt (addN (b:=1) rfl rfl)<|qt asg<|nl<|?_
      refine kn23 _ ((i+1)) _ ⟨rfl,rfl,rfl,trivial⟩ ⟨(H63.pick [] (by decide)),?_⟩ ?_
      ·try dsimp only
       exact hfa.step (by omega) hru53 (by rintro ⟨h1,h2⟩;first | exact absurd h1 (by assumption) | omega)
      ·(try dsimp only);omega
    ·refine st_gn 1 35 rfl rfl (by decide) rfl<|st_gn 1 35 rfl rfl (by decide) rfl<|st_gn 1 35 rfl rfl (by decide) rfl<|st_gn 1 35 rfl rfl (by decide) rfl<|qt (pkF rfl)<|nl<|k65 _ _<|cndF rfl<|skip<|kn38 _ _<|kn34 _ _<|region<|qt mv<|qt (addN (b:=1) rfl rfl)<|qt asg<|nl<|?_
     refine kn23 _ ((i+1)) _ ⟨rfl,rfl,rfl,trivial⟩ ⟨(H63.pick [] (by decide)),?_⟩ ?_
     ·try dsimp only
      exact hfa.step (by omega) hru53 (by rintro ⟨h1,h2⟩;first | exact absurd h1 (by assumption) | omega)
     ·(try dsimp only);omega
   ·refine exit<|ke29 _ _ _<|ke25 _ _ _<|kb16 _ _<|?_
    refine kn7 _ (t.size) _ ⟨rfl,rfl,trivial⟩ ⟨(hx20.pick [] (by decide)),?_⟩
    try dsimp only
    exact ⟨hfa.fin (by omega),Nat.le_refl _⟩
 ·rintro τ70 f0 w71 ⟨H72,⟨hf,hfl⟩⟩
  try dsimp only at H72 hf hfl ⊢
  refine sr fun Q73 k74=>qt mv<|qt mv<|qt (x_sliceSHi Tryz.underlying9 rfl rfl (by omega))<|qt (x_addS (a:=(ByteArray.mk #[113,58,45])) (b:=(t.extract 0 f0)) rfl rfl (by have e1:(ByteArray.mk #[113,58,45]).size=3:=rfl;have e2:(ByteArray.mk #[10,46]).size=2:=rfl;have e3:=cut_le (t:=t) (a:=0) (b:=f0);first | omega | (rw [ByteArray.size_append];omega)))<|?_
  refine cl T.cf23 (ruleQ (t.extract 0 f0) _ (by have e3:=cut_le (t:=t) (a:=0) (b:=f0);omega)) rfl fun _ w87 ⟨ok75,n76,s77,xs78,ad79,c80,rows81,aq82,cq83,er,⟨hru84,hn86⟩,K85⟩=>⟨_,er,?_⟩
  have H88:=H72.app' K85
  refine qt mv<|qt (x_extract rfl rfl)<|qt (x_extract rfl rfl)<|qt (x_extract rfl rfl)<|?_
  refine st_e<|Eal H88 T.zv60 fun b89 w90 H91 x92=>?_
  refine st_s<|Est (v:=.agg #[.string s77,.slice ad79 xs78.length c80,.slice aq82 rows81.length cq83]) H91 0 T.sz60 rfl rfl rfl rfl rfl rfl fun w93 H94=>qt asg<|qt asg<|nl<|k74 _ _<|?_
  refine seqLK (n:=100) (ds:=[]) (α:=Nat) (fun x=>[(0,.string t),(5,.int .i64 ((x:Nat):Int))]) (fun x w95=>Hp No w0 w95 []∧x=farR (bl t)∧x≤t.size) ?_ ?_
  ·intro Q96 kn97 kr98 ke99
   refine sr fun Q100 k101=>qt (mvB rfl)<|qt (x_notP rfl)<|st_if (p:=¬ (ok75=true)) (x_move rfl) (fun h102=>?_) (fun h102=>?_)
   ·refine st_gq 2 53 rfl rfl (by decide)<|qt mv<|st_gq 2 53 rfl rfl (by decide)<|qt (x_sub rfl rfl ⟨by omega,by omega⟩)<|st_gq 2 53 rfl rfl (by decide)<|qt mv<|st_gq 2 53 rfl rfl (by decide)<|qt (x_lss rfl rfl)<|qt (pkT rfl)<|nl<|k101 _ _<|cnd (p:=(((n76:Nat):Int)-3)<((f0:Nat):Int)) rfl (fun h103=>?_) (fun h103=>?_)
    ·refine region<|qt mv<|?_
     have h3n:=(far_2 hf hru84 (by assumption) (by omega)).2
     refine qt (subN (b:=3) rfl rfl (by omega) (by omega))<|qt asg<|nl<|?_
     refine kn97 _ ((n76-3)) _ ⟨rfl,rfl,trivial⟩ ⟨(H94.pick [] (by decide)),?_⟩
     try dsimp only
     exact ⟨(far_2 hf hru84 (by assumption) (by omega)).1,by omega⟩
    ·refine skip<|?_
     refine kn97 _ (f0) _ ⟨rfl,rfl,trivial⟩ ⟨(H94.pick [] (by decide)),?_⟩
     try dsimp only
     exact ⟨far_1 hf hru84 (by first | exact .inl (by assumption) | exact .inl (Decidable.of_not_not (by assumption)) | exact .inr (by omega)),hfl⟩
   ·refine st_gn 2 53 rfl rfl (by decide) rfl<|st_gn 2 53 rfl rfl (by decide) rfl<|st_gn 2 53 rfl rfl (by decide) rfl<|st_gn 2 53 rfl rfl (by decide) rfl<|qt (pkF rfl)<|nl<|k101 _ _<|cndF rfl<|skip<|?_
    refine kn97 _ (f0) _ ⟨rfl,rfl,trivial⟩ ⟨(H94.pick [] (by decide)),?_⟩
    try dsimp only
    exact ⟨far_1 hf hru84 (by first | exact .inl (by assumption) | exact .inl (Decidable.of_not_not (by assumption)) | exact .inr (by omega)),hfl⟩
  ·rintro τ104 f w105 ⟨H106,⟨hf,hfl⟩⟩
   try dsimp only at H106 hf hfl ⊢
   refine seqK fun Q107 kn108 kr109 ke110=>?_
   refine sr fun Q111 k112=>qt mv<|qt mv<|qt (x_lenS rfl Tryz.underlying9 rfl)<|qt (x_eqlN rfl rfl)<|st_if (p:=f=t.size) (x_move rfl) (fun h113=>?_) (fun h113=>?_)
   ·refine st_gn 4 65 rfl rfl (by decide) rfl<|st_gn 4 65 rfl rfl (by decide) rfl<|st_gn 4 65 rfl rfl (by decide) rfl<|st_gn 4 65 rfl rfl (by decide) rfl<|qt (pkT rfl)<|nl<|k112 _ _<|cndT rfl<|?_
    refine sr fun Q114 k115=>qt mv<|qt asg<|qt asg<|qt asg<|nl<|k115 _ _<|ret<|kr109 _ _<|leave3 (P:=Tryz.prog) (fn:=Tryz.f7) (t:=2) (u:=3) (s:=4) (v:=.slice none 0 0) (v':=.int .i64 ((f:Nat):Int)) (v'':=.bool false) rfl rfl rfl rfl ?_
    exact ⟨false,f,[],none,0,rfl,.inr ⟨rfl,rfl,ref_1 hf (by omega)⟩,((H106.pick [] (by decide)).fnil (fun k=>pL (el ([]:List Rw) k))).nilQ 37 eL⟩
   ·refine st_gq 4 65 rfl rfl (by decide)<|qt mv<|st_gq 4 65 rfl rfl (by decide)<|qt mv<|st_gq 4 65 rfl rfl (by decide)<|qt (x_indexS Tryz.underlying9 rfl rfl (by omega))<|st_gq 4 65 rfl rfl (by decide)<|qt (x_neqN (b:=63) rfl rfl)<|qt (pkF rfl)<|nl<|k112 _ _<|cnd (p:=(ch t f)≠63) rfl (fun h116=>?_) (fun h116=>?_)
    ·refine sr fun Q117 k118=>qt mv<|qt asg<|qt asg<|qt asg<|nl<|k118 _ _<|ret<|kr109 _ _<|leave3 (P:=Tryz.prog) (fn:=Tryz.f7) (t:=2) (u:=3) (s:=4) (v:=.slice none 0 0) (v':=.int .i64 ((f:Nat):Int)) (v'':=.bool false) rfl rfl rfl rfl ?_
     exact ⟨false,f,[],none,0,rfl,.inr ⟨rfl,rfl,ref_1 hf (by omega)⟩,((H106.pick [] (by decide)).fnil (fun k=>pL (el ([]:List Rw) k))).nilQ 37 eL⟩
    ·refine skip<|kn108 _ _<|?_
     refine sr fun Q119 k120=>qt mv<|qt mv<|qt (x_sliceSHi Tryz.underlying9 rfl rfl (by omega))<|qt (x_addS (a:=(ByteArray.mk #[113,58,45])) (b:=(t.extract 0 f)) rfl rfl (by have e1:(ByteArray.mk #[113,58,45]).size=3:=rfl;have e2:(ByteArray.mk #[10,46]).size=2:=rfl;have e3:=cut_le (t:=t) (a:=0) (b:=f);first | omega | (rw [ByteArray.size_append];omega)))<|qt (x_addS (a:=((ByteArray.mk #[113,58,45])++(t.extract 0 f))) (b:=(ByteArray.mk #[10,46])) rfl rfl (by have e1:(ByteArray.mk #[113,58,45]).size=3:=rfl;have e2:(ByteArray.mk #[10,46]).size=2:=rfl;have e3:=cut_le (t:=t) (a:=0) (b:=f);first | omega | (rw [ByteArray.size_append];omega)))<|?_
     refine cl T.cf23 (ruleQ2 (t.extract 0 f) (ByteArray.mk #[10,46]) _ (by have e2:(ByteArray.mk #[10,46]).size=2:=rfl;have e3:=cut_le (t:=t) (a:=0) (b:=f);omega)) rfl fun _ w133 ⟨ok121,n122,s123,xs124,ad125,c126,rows127,aq128,cq129,er,⟨hru130,hn132⟩,K131⟩=>⟨_,er,?_⟩
     have H134:=H106.app' K131
     refine qt mv<|qt (x_extract rfl rfl)<|qt (x_extract rfl rfl)<|qt (x_extract rfl rfl)<|?_
     refine st_e<|Eal H134 T.zv60 fun b135 w136 H137 x138=>?_
     refine st_s<|Est (v:=.agg #[.string s123,.slice ad125 xs124.length c126,.slice aq128 rows127.length cq129]) H137 0 T.sz60 rfl rfl rfl rfl rfl rfl fun w139 H140=>qt asg<|qt asg<|nl<|k120 _ _<|seqK fun Q141 kn142 kr143 ke144=>?_
     refine sr fun Q145 k146=>qt (mvB rfl)<|qt (x_notP rfl)<|nl<|k146 _ _<|cnd (p:=¬ (ok121=true)) rfl (fun h147=>?_) (fun h147=>?_)
     ·refine sr fun Q148 k149=>qt mv<|qt asg<|qt asg<|qt asg<|nl<|k149 _ _<|ret<|kr143 _ _<|leave3 (P:=Tryz.prog) (fn:=Tryz.f7) (t:=2) (u:=3) (s:=4) (v:=.slice none 0 0) (v':=.int .i64 ((f:Nat):Int)) (v'':=.bool false) rfl rfl rfl rfl ?_
      exact ⟨false,f,[],none,0,rfl,.inr ⟨rfl,rfl,ref_2 hf (by omega) (by omega) hru130 (by assumption)⟩,((H140.pick [] (by decide)).fnil (fun k=>pL (el ([]:List Rw) k))).nilQ 37 eL⟩
     ·refine skip<|kn142 _ _<|?_
      refine sr fun Q150 k151=>qt mv<|qt (addN (b:=1) rfl rfl)<|qt mv<|qt mv<|qt (addN (b:=1) rfl rfl)<|qt (x_sliceSLo Tryz.underlying9 rfl rfl (by omega))<|?_
      refine cl T.cf24 (blanks24 (t.extract (f+1) t.size) _ (by have e3:=cut_le (t:=t) (a:=f+1) (b:=t.size);omega)) rfl fun _ _ ⟨er,rfl⟩=>⟨_,er,?_⟩
      have hbl:blankP (bl (t.extract (f+1) t.size)) false 0≤((t.extract (f+1) t.size)).size:=by have h:=(blankP_le (bl (t.extract (f+1) t.size)) false 0).2;rw [bl_len] at h;omega
      have hcl:((t.extract (f+1) t.size)).size≤t.size:=cut_le
      refine qt (addN rfl rfl)<|qt asg<|nl<|k151 _ _<|seqK fun Q154 kn155 kr156 ke157=>?_
      refine sr fun Q158 k159=>qt mv<|qt mv<|qt (x_lenS rfl Tryz.underlying9 rfl)<|qt (x_lssN rfl rfl)<|nl<|k159 _ _<|cnd (p:=((f+1)+(blankP (bl (t.extract (f+1) t.size)) false 0))<t.size) rfl (fun h160=>?_) (fun h160=>?_)
      ·refine sr fun Q161 k162=>qt mv<|qt asg<|qt asg<|qt asg<|nl<|k162 _ _<|ret<|kr156 _ _<|leave3 (P:=Tryz.prog) (fn:=Tryz.f7) (t:=2) (u:=3) (s:=4) (v:=.slice none 0 0) (v':=.int .i64 ((((f+1)+(blankP (bl (t.extract (f+1) t.size)) false 0)):Nat):Int)) (v'':=.bool false) rfl rfl rfl rfl ?_
       exact ⟨false,((f+1)+(blankP (bl (t.extract (f+1) t.size)) false 0)),[],none,0,rfl,.inr ⟨rfl,rfl,(ref_3 hf (by omega) (by omega) hru130 (by first | assumption | exact Decidable.of_not_not (by assumption)) rfl).trans (if_pos (by omega))⟩,((H140.pick [] (by decide)).fnil (fun k=>pL (el ([]:List Rw) k))).nilQ 37 eL⟩
      ·refine skip<|kn155 _ _<|?_
       refine sr fun Q163 k164=>qt (x_field (o:=0) T.fa60_1 rfl)<|qt (x_load1 T.na23 rfl (H140.ld 0 rfl 2 rfl))<|qt asg<|qt asg<|qt asg<|nl<|k164 _ _<|ret<|leave3 (P:=Tryz.prog) (fn:=Tryz.f7) (t:=2) (u:=3) (s:=4) (v:=.slice aq128 rows127.length cq129) (v':=.int .i64 ((0:Nat):Int)) (v'':=.bool true) rfl rfl rfl rfl ?_
       exact ⟨true,0,rows127,aq128,cq129,rfl,.inl ⟨rfl,rfl,(ref_3 hf (by omega) (by omega) hru130 (by first | assumption | exact Decidable.of_not_not (by assumption)) rfl).trans (if_neg (by omega))⟩,(H140.pick [2,3] (by decide))⟩
end Go.Proofs.YtljfgmedbjlkaaaGreat
