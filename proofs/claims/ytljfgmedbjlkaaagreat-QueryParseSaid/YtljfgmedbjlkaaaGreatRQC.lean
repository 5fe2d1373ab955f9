/- A part of the engine: steps over the model. Over any program. -/
import Derived.Test.YtljfgmedbjlkaaaGreatQA
import Derived.Test.YtljfgmedbjlkaaaGreatV3
import Derived.Test.YtljfgmedbjlkaaaGreatQV
import Derived.Test.YtljfgmedbjlkaaaGreatRQA
import Derived.Test.YtljfgmedbjlkaaaGreatRQB
import Derived.Test.YtljfgmedbjlkaaaGreatProg
namespace Go.Proofs.YtljfgmedbjlkaaaGreat
open Go.RowKit Go.Eng Go.QP
theorem T.cf336:CF Tryz.prog 336:=fun _ _=>by kernel_rfl
theorem piece303 (t:ByteArray) (S:Nat→Prop) (bb a:Nat) (bd:Bool) (w0:World) (Hx:Hp S w0 w0 [RdC bb t a bd]) (hs:t.size≤68719476736) (ha:a≤t.size) (n:Nat) (hb:¬ bd=true) :
  Calls Tryz.prog 303 #[.pointer (some ⟨bb,0,none⟩),.int .i64 ((n:Nat):Int)] w0 fun e w'=>∃ x a' b',e= .returned (.int .u8 ((x:Nat):Int))∧Stp (pieceR n t a) bd a x a' b'∧a'≤t.size∧Hp S w0 w' [RdC bb t a' b']:=by
 have H0:Hp S w0 w0 [RdC bb t a bd]:=Hx
 refine enter Tryz.func303 rfl 95 Tryz.ntmps303 rfl<|?_
 refine sr fun Q1 k2=>qt asg<|nl<|k2 _ _<|?_
 refine sr fun Q3 k4=>qt mv<|?_
 have H6:Hp S w0 w0 ([RdC bb t a bd]++[]):=(H0.pick [0] (by decide))
 refine cl T.cf115 (peek115 t _ bb a bd _ H6.startL hs (by omega)) rfl fun _ w7 ⟨er,K5⟩=>⟨_,er,?_⟩
 have H8:=H6.callL K5
 refine qt asg<|nl<|k4 _ _<|seqK fun Q9 kn10 kr11 ke12=>?_
 refine sr fun Q13 k14=>qt mv<|?_
 have H16:Hp S w0 w7 ([RdC bb t a bd]++[]):=(H8.pick [0] (by decide))
 refine cl T.cf63 (end63 t _ bb a bd _ H16.startL hs (by omega)) rfl fun _ w17 ⟨er,K15⟩=>⟨_,er,?_⟩
 have H18:=H16.callL K15
 refine st_if (p:=t.size≤a) (x_move rfl) (fun h19=>?_) (fun h19=>?_)
 ·refine st_gn 2 11 rfl rfl (by decide) rfl<|st_gn 2 11 rfl rfl (by decide) rfl<|qt (pkT rfl)<|qt mv<|st_gn 6 15 rfl rfl (by decide) rfl<|st_gn 6 15 rfl rfl (by decide) rfl<|qt (pkT rfl)<|qt mv<|st_gn 10 19 rfl rfl (by decide) rfl<|st_gn 10 19 rfl rfl (by decide) rfl<|qt (pkT rfl)<|nl<|k14 _ _<|cndT rfl<|?_
  refine sr fun Q20 k21=>qt mv<|qt mv<|qt (x_nilCheck rfl)<|qt (x_field (o:=0) T.fa130_1 rfl)<|qt (x_load1 T.na3 rfl (H18.ld 0 rfl 1 rfl))<|?_
  have H23:Hp S w0 w17 ([RdC bb t a bd]++[]):=(H18.pick [0] (by decide))
  refine cl T.cf64 (stop64 t _ bb a bd _ H23.startL hs (by omega)) rfl fun _ w24 ⟨er,K22⟩=>⟨_,er,?_⟩
  have H25:=H23.callL K22
  refine nl<|k21 _ _<|?_
  refine sr fun Q26 k27=>qt asg<|nl<|k27 _ _<|ret<|kr11 _ _<|leave1 (P:=Tryz.prog) (fn:=Tryz.f303) (t:=4) (v:=.int .u8 ((0:Nat):Int)) rfl rfl<|?_
  exact ⟨0,a,true,rfl,Stp.stops hb (piece_1 (n:=n) (t:=t) (a:=a) (by first | omega | (have:=pk_off (t:=t) (a:=a) (by omega);omega))),by omega,(H25.pick [0] (by decide))⟩
 ·refine st_gq 2 11 rfl rfl (by decide)<|qt mv<|st_gq 2 11 rfl rfl (by decide)<|qt (x_eqlN (b:=1024) rfl rfl)<|qt (pkF rfl)<|st_if (p:=n=1024) (x_move rfl) (fun h28=>?_) (fun h28=>?_)
  ·refine st_gn 6 15 rfl rfl (by decide) rfl<|st_gn 6 15 rfl rfl (by decide) rfl<|qt (pkT rfl)<|qt mv<|st_gn 10 19 rfl rfl (by decide) rfl<|st_gn 10 19 rfl rfl (by decide) rfl<|qt (pkT rfl)<|nl<|k14 _ _<|cndT rfl<|?_
   refine sr fun Q29 k30=>qt mv<|qt mv<|qt (x_nilCheck rfl)<|qt (x_field (o:=0) T.fa130_1 rfl)<|qt (x_load1 T.na3 rfl (H18.ld 0 rfl 1 rfl))<|?_
   have H32:Hp S w0 w17 ([RdC bb t a bd]++[]):=(H18.pick [0] (by decide))
   refine cl T.cf64 (stop64 t _ bb a bd _ H32.startL hs (by omega)) rfl fun _ w33 ⟨er,K31⟩=>⟨_,er,?_⟩
   have H34:=H32.callL K31
   refine nl<|k30 _ _<|?_
   refine sr fun Q35 k36=>qt asg<|nl<|k36 _ _<|ret<|kr11 _ _<|leave1 (P:=Tryz.prog) (fn:=Tryz.f303) (t:=4) (v:=.int .u8 ((0:Nat):Int)) rfl rfl<|?_
   exact ⟨0,a,true,rfl,Stp.stops hb (piece_1 (n:=n) (t:=t) (a:=a) (by first | omega | (have:=pk_off (t:=t) (a:=a) (by omega);omega))),by omega,(H34.pick [0] (by decide))⟩
  ·refine st_gq 6 15 rfl rfl (by decide)<|qt mv<|st_gq 6 15 rfl rfl (by decide)<|qt (x_lssN (b:=32) rfl rfl)<|qt (pkF rfl)<|st_if (p:=(pk t a)<32) (x_move rfl) (fun h37=>?_) (fun h37=>?_)
   ·refine st_gn 10 19 rfl rfl (by decide) rfl<|st_gn 10 19 rfl rfl (by decide) rfl<|qt (pkT rfl)<|nl<|k14 _ _<|cndT rfl<|?_
    refine sr fun Q38 k39=>qt mv<|qt mv<|qt (x_nilCheck rfl)<|qt (x_field (o:=0) T.fa130_1 rfl)<|qt (x_load1 T.na3 rfl (H18.ld 0 rfl 1 rfl))<|?_
    have H41:Hp S w0 w17 ([RdC bb t a bd]++[]):=(H18.pick [0] (by decide))
    refine cl T.cf64 (stop64 t _ bb a bd _ H41.startL hs (by omega)) rfl fun _ w42 ⟨er,K40⟩=>⟨_,er,?_⟩
    have H43:=H41.callL K40
    refine nl<|k39 _ _<|?_
    refine sr fun Q44 k45=>qt asg<|nl<|k45 _ _<|ret<|kr11 _ _<|leave1 (P:=Tryz.prog) (fn:=Tryz.f303) (t:=4) (v:=.int .u8 ((0:Nat):Int)) rfl rfl<|?_
    exact ⟨0,a,true,rfl,Stp.stops hb (piece_1 (n:=n) (t:=t) (a:=a) (by first | omega | (have:=pk_off (t:=t) (a:=a) (by omega);omega))),by omega,(H43.pick [0] (by decide))⟩
   ·refine st_gq 10 19 rfl rfl (by decide)<|qt mv<|st_gq 10 19 rfl rfl (by decide)<|qt (x_gtrN (b:=126) rfl rfl)<|qt (pkF rfl)<|nl<|k14 _ _<|cnd (p:=126<(pk t a)) rfl (fun h46=>?_) (fun h46=>?_)
    ·refine sr fun Q47 k48=>qt mv<|qt mv<|qt (x_nilCheck rfl)<|qt (x_field (o:=0) T.fa130_1 rfl)<|qt (x_load1 T.na3 rfl (H18.ld 0 rfl 1 rfl))<|?_
     have H50:Hp S w0 w17 ([RdC bb t a bd]++[]):=(H18.pick [0] (by decide))
     refine cl T.cf64 (stop64 t _ bb a bd _ H50.startL hs (by omega)) rfl fun _ w51 ⟨er,K49⟩=>⟨_,er,?_⟩
     have H52:=H50.callL K49
     refine nl<|k48 _ _<|?_
     refine sr fun Q53 k54=>qt asg<|nl<|k54 _ _<|ret<|kr11 _ _<|leave1 (P:=Tryz.prog) (fn:=Tryz.f303) (t:=4) (v:=.int .u8 ((0:Nat):Int)) rfl rfl<|?_
     exact ⟨0,a,true,rfl,Stp.stops hb (piece_1 (n:=n) (t:=t) (a:=a) (by first | omega | (have:=pk_off (t:=t) (a:=a) (by omega);omega))),by omega,(H52.pick [0] (by decide))⟩
    ·refine skip<|kn10 _ _<|?_
     refine sr fun Q55 k56=>qt mv<|qt (x_nilCheck rfl)<|qt (x_field (o:=0) T.fa130_1 rfl)<|qt (x_load1 T.na3 rfl (H18.ld 0 rfl 1 rfl))<|qt (addN (b:=1) rfl rfl)<|qt (x_nilCheck rfl)<|qt (x_field (o:=0) T.fa130_1 rfl)<|?_
     refine st_s<|Est (v:=.int .i64 (((a+1):Nat):Int)) H18 0 T.sz3 rfl rfl rfl rfl rfl rfl fun w57 H58=>nl<|k56 _ _<|seqK fun Q59 kn60 kr61 ke62=>?_
     refine sr fun Q63 k64=>qt mv<|qt (x_neqN (b:=92) rfl rfl)<|nl<|k64 _ _<|cnd (p:=(pk t a)≠92) rfl (fun h65=>?_) (fun h65=>?_)
     ·refine sr fun Q66 k67=>qt mv<|qt asg<|nl<|k67 _ _<|ret<|kr61 _ _<|leave1 (P:=Tryz.prog) (fn:=Tryz.f303) (t:=4) (v:=.int .u8 ((pk t a:Nat):Int)) rfl rfl<|?_
      exact ⟨pk t a,(a+1),bd,rfl,Stp.goes hb (piece_2 (n:=n) (t:=t) (a:=a) (by omega) (by omega)),by omega,(H58.pick [0] (by decide))⟩
     ·refine skip<|kn60 _ _<|?_
      refine sr fun Q68 k69=>qt mv<|?_
      have H71:Hp S w0 w57 ([RdC bb t (a+1) bd]++[]):=(H58.pick [0] (by decide))
      refine cl T.cf115 (peek115 t _ bb (a+1) bd _ H71.startL hs (by omega)) rfl fun _ w72 ⟨er,K70⟩=>⟨_,er,?_⟩
      have H73:=H71.callL K70
      refine qt asg<|nl<|k69 _ _<|seqK fun Q74 kn75 kr76 ke77=>?_
      refine sr fun Q78 k79=>qt mv<|?_
      have H81:Hp S w0 w72 ([RdC bb t (a+1) bd]++[]):=(H73.pick [0] (by decide))
      refine cl T.cf63 (end63 t _ bb (a+1) bd _ H81.startL hs (by omega)) rfl fun _ w82 ⟨er,K80⟩=>⟨_,er,?_⟩
      have H83:=H81.callL K80
      refine st_if (p:=t.size≤(a+1)) (x_move rfl) (fun h84=>?_) (fun h84=>?_)
      ·refine st_gn 2 43 rfl rfl (by decide) rfl<|st_gn 2 43 rfl rfl (by decide) rfl<|st_gn 2 43 rfl rfl (by decide) rfl<|st_gu 5 46 rfl rfl (by decide)<|st_gu 5 46 rfl rfl (by decide)<|st_gn 2 43 rfl rfl (by decide) rfl<|st_gn 2 43 rfl rfl (by decide) rfl<|st_gu 9 50 rfl rfl (by decide)<|st_gu 9 50 rfl rfl (by decide)<|st_gn 2 43 rfl rfl (by decide) rfl<|st_gn 2 43 rfl rfl (by decide) rfl<|st_gu 13 54 rfl rfl (by decide)<|st_gu 13 54 rfl rfl (by decide)<|st_gn 2 43 rfl rfl (by decide) rfl<|st_gn 2 43 rfl rfl (by decide) rfl<|st_gu 17 58 rfl rfl (by decide)<|st_gu 17 58 rfl rfl (by decide)<|st_gn 2 43 rfl rfl (by decide) rfl<|qt (pkT rfl)<|nl<|k79 _ _<|cndT rfl<|?_
       refine sr fun Q85 k86=>qt mv<|qt mv<|qt (x_nilCheck rfl)<|qt (x_field (o:=0) T.fa130_1 rfl)<|qt (x_load1 T.na3 rfl (H83.ld 0 rfl 1 rfl))<|?_
       have H88:Hp S w0 w82 ([RdC bb t (a+1) bd]++[]):=(H83.pick [0] (by decide))
       refine cl T.cf64 (stop64 t _ bb (a+1) bd _ H88.startL hs (by omega)) rfl fun _ w89 ⟨er,K87⟩=>⟨_,er,?_⟩
       have H90:=H88.callL K87
       refine nl<|k86 _ _<|?_
       refine sr fun Q91 k92=>qt asg<|nl<|k92 _ _<|ret<|kr76 _ _<|leave1 (P:=Tryz.prog) (fn:=Tryz.f303) (t:=4) (v:=.int .u8 ((0:Nat):Int)) rfl rfl<|?_
       exact ⟨0,(a+1),true,rfl,Stp.stops hb (piece_3 (n:=n) (t:=t) (a:=a) (by omega) (by omega) (by first | omega | (have:=pk_off (t:=t) (a:=a+1) (by omega);omega))),by omega,(H90.pick [0] (by decide))⟩
      ·refine st_gq 2 43 rfl rfl (by decide)<|qt mv<|st_gq 2 43 rfl rfl (by decide)<|qt (x_neqN (b:=34) rfl rfl)<|st_gq 2 43 rfl rfl (by decide)<|st_if (p:=(pk t (a+1))≠34) (x_move rfl) (fun h93=>?_) (fun h93=>?_)
       ·refine st_gq 5 46 rfl rfl (by decide)<|qt mv<|st_gq 5 46 rfl rfl (by decide)<|qt (x_neqN (b:=92) rfl rfl)<|st_gq 2 43 rfl rfl (by decide)<|qt (pkT rfl)<|st_gq 2 43 rfl rfl (by decide)<|st_if (p:=(pk t (a+1))≠92) (x_move rfl) (fun h94=>?_) (fun h94=>?_)
        ·refine st_gq 9 50 rfl rfl (by decide)<|qt mv<|st_gq 9 50 rfl rfl (by decide)<|qt (x_neqN (b:=110) rfl rfl)<|st_gq 2 43 rfl rfl (by decide)<|qt (pkT rfl)<|st_gq 2 43 rfl rfl (by decide)<|st_if (p:=(pk t (a+1))≠110) (x_move rfl) (fun h95=>?_) (fun h95=>?_)
         ·refine st_gq 13 54 rfl rfl (by decide)<|qt mv<|st_gq 13 54 rfl rfl (by decide)<|qt (x_neqN (b:=116) rfl rfl)<|st_gq 2 43 rfl rfl (by decide)<|qt (pkT rfl)<|st_gq 2 43 rfl rfl (by decide)<|st_if (p:=(pk t (a+1))≠116) (x_move rfl) (fun h96=>?_) (fun h96=>?_)
          ·refine st_gq 17 58 rfl rfl (by decide)<|qt mv<|st_gq 17 58 rfl rfl (by decide)<|qt (x_neqN (b:=120) rfl rfl)<|st_gq 2 43 rfl rfl (by decide)<|qt (pkT rfl)<|qt (pkF rfl)<|nl<|k79 _ _<|cnd (p:=(pk t (a+1))≠120) rfl (fun h97=>?_) (fun h97=>?_)
           ·refine sr fun Q98 k99=>qt mv<|qt mv<|qt (x_nilCheck rfl)<|qt (x_field (o:=0) T.fa130_1 rfl)<|qt (x_load1 T.na3 rfl (H83.ld 0 rfl 1 rfl))<|?_
            have H101:Hp S w0 w82 ([RdC bb t (a+1) bd]++[]):=(H83.pick [0] (by decide))
            refine cl T.cf64 (stop64 t _ bb (a+1) bd _ H101.startL hs (by omega)) rfl fun _ w102 ⟨er,K100⟩=>⟨_,er,?_⟩
            have H103:=H101.callL K100
            refine nl<|k99 _ _<|?_
            refine sr fun Q104 k105=>qt asg<|nl<|k105 _ _<|ret<|kr76 _ _<|leave1 (P:=Tryz.prog) (fn:=Tryz.f303) (t:=4) (v:=.int .u8 ((0:Nat):Int)) rfl rfl<|?_
            exact ⟨0,(a+1),true,rfl,Stp.stops hb (piece_3 (n:=n) (t:=t) (a:=a) (by omega) (by omega) (by first | omega | (have:=pk_off (t:=t) (a:=a+1) (by omega);omega))),by omega,(H103.pick [0] (by decide))⟩
           ·refine skip<|kn75 _ _<|?_
            refine sr fun Q106 k107=>qt mv<|qt (x_nilCheck rfl)<|qt (x_field (o:=0) T.fa130_1 rfl)<|qt (x_load1 T.na3 rfl (H83.ld 0 rfl 1 rfl))<|qt (addN (b:=1) rfl rfl)<|qt (x_nilCheck rfl)<|qt (x_field (o:=0) T.fa130_1 rfl)<|?_
            refine st_s<|Est (v:=.int .i64 ((((a+1)+1):Nat):Int)) H83 0 T.sz3 rfl rfl rfl rfl rfl rfl fun w108 H109=>nl<|k107 _ _<|seqK fun Q110 kn111 kr112 ke113=>?_
            refine sr fun Q114 k115=>qt mv<|nl<|k115 _ _<|blockK fun Q116 kn117 kr118 kx119 kb120=>?_
            refine sr fun Q121 k122=>qt (x_eqlN (b:=110) rfl rfl)<|qt asg<|nl<|k122 _ _<|cnd (p:=(pk t (a+1))=110) rfl (fun h123=>?_) (fun h123=>?_)
            ·refine sr fun Q124 k125=>qt asg<|nl<|k125 _ _<|ret<|kr118 _ _<|kr112 _ _<|leave1 (P:=Tryz.prog) (fn:=Tryz.f303) (t:=4) (v:=.int .u8 ((10:Nat):Int)) rfl rfl<|?_
             exact ⟨10,((a+1)+1),bd,rfl,Stp.goes hb (piece_4 (n:=n) (t:=t) (a:=a) (by omega) (by omega) (by omega)),by omega,(H109.pick [0] (by decide))⟩
            ·refine sr fun Q126 k127=>qt (x_eqlN (b:=116) rfl rfl)<|qt asg<|nl<|k127 _ _<|cnd (p:=(pk t (a+1))=116) rfl (fun h128=>?_) (fun h128=>?_)
             ·refine sr fun Q129 k130=>qt asg<|nl<|k130 _ _<|ret<|kr118 _ _<|kr112 _ _<|leave1 (P:=Tryz.prog) (fn:=Tryz.f303) (t:=4) (v:=.int .u8 ((9:Nat):Int)) rfl rfl<|?_
              exact ⟨9,((a+1)+1),bd,rfl,Stp.goes hb (piece_4 (n:=n) (t:=t) (a:=a) (by omega) (by omega) (by omega)),by omega,(H109.pick [0] (by decide))⟩
             ·refine sr fun Q131 k132=>qt (x_eqlN (b:=120) rfl rfl)<|qt asg<|nl<|k132 _ _<|cnd (p:=(pk t (a+1))=120) rfl (fun h133=>?_) (fun h133=>?_)
              ·refine sr fun Q134 k135=>qt mv<|?_
               have H142:Hp S w0 w108 ([RdC bb t ((a+1)+1) bd]++[]):=(H109.pick [0] (by decide))
               refine cl T.cf336 (hex336 t _ bb ((a+1)+1) bd _ H142.startL hs (by omega) (by assumption)) rfl fun _ w143 ⟨x139,a140,b141,er,hst137,hle138,K136⟩=>⟨_,er,?_⟩
               have H144:=H142.callL K136
               have hlhst137:=hst137.2
               refine qt asg<|nl<|k135 _ _<|seqK fun Q145 kn146 kr147 ke148=>?_
               refine sr fun Q149 k150=>qt mv<|qt (x_nilCheck rfl)<|qt (x_field (o:=0) T.fa130_2 rfl)<|qt (x_load1 T.na4 rfl (H144.ld 0 rfl 2 rfl))<|nl<|k150 _ _<|cnd (p:=b141=true) rfl (fun h151=>?_) (fun h151=>?_)
               ·refine sr fun Q152 k153=>qt asg<|nl<|k153 _ _<|ret<|kr147 _ _<|kr118 _ _<|kr112 _ _<|leave1 (P:=Tryz.prog) (fn:=Tryz.f303) (t:=4) (v:=.int .u8 ((0:Nat):Int)) rfl rfl<|?_
                exact ⟨0,a140,b141,rfl,Stp.off hb ((hst137.1.th (g:=fun h j=>(hexR t j).th fun k j'=>.ok (16 * h+k) j') (Stp.was (by assumption))).eq (piece_5 (n:=n) (t:=t) (a:=a) (by omega) (by omega) (by omega))),by omega,(H144.pick [0] (by decide))⟩
               ·refine skip<|kn146 _ _<|?_
                refine sr fun Q154 k155=>qt mv<|qt (x_mul8 (a:=16) (c:=16 * x139) rfl rfl rfl (by omega))<|qt mv<|?_
                have H162:Hp S w0 w143 ([RdC bb t a140 b141]++[]):=(H144.pick [0] (by decide))
                refine cl T.cf336 (hex336 t _ bb a140 b141 _ H162.startL hs (by omega) (by assumption)) rfl fun _ w163 ⟨x159,a160,b161,er,hst157,hle158,K156⟩=>⟨_,er,?_⟩
                have H164:=H162.callL K156
                have hlhst157:=hst157.2
                refine qt (x_add8 (c:=(16 * x139)+x159) rfl rfl rfl (by omega))<|qt asg<|nl<|k155 _ _<|ret<|kr118 _ _<|kr112 _ _<|leave1 (P:=Tryz.prog) (fn:=Tryz.f303) (t:=4) (v:=.int .u8 ((((16 * x139)+x159):Nat):Int)) rfl rfl<|?_
                exact ⟨((16 * x139)+x159),a160,b161,rfl,Stp.off hb ((hst137.1.th (g:=fun h j=>(hexR t j).th fun k j'=>.ok (16 * h+k) j') (hst157.1.th (g:=fun k j'=>.ok (16 * x139+k) j') Stp.ok)).eq (piece_5 (n:=n) (t:=t) (a:=a) (by omega) (by omega) (by omega))),by omega,(H164.pick [0] (by decide))⟩
              ·refine skip<|kn117 _ _<|kn111 _ _<|?_
               refine sr fun Q165 k166=>qt mv<|qt asg<|nl<|k166 _ _<|ret<|leave1 (P:=Tryz.prog) (fn:=Tryz.f303) (t:=4) (v:=.int .u8 ((pk t (a+1):Nat):Int)) rfl rfl<|?_
               exact ⟨pk t (a+1),((a+1)+1),bd,rfl,Stp.goes hb (piece_4 (n:=n) (t:=t) (a:=a) (by omega) (by omega) (by omega)),by omega,(H109.pick [0] (by decide))⟩
          ·refine st_gn 17 58 rfl rfl (by decide) rfl<|st_gn 17 58 rfl rfl (by decide) rfl<|st_gq 2 43 rfl rfl (by decide)<|qt (pkF rfl)<|qt (pkF rfl)<|nl<|k79 _ _<|cndF rfl<|skip<|kn75 _ _<|?_
           refine sr fun Q167 k168=>qt mv<|qt (x_nilCheck rfl)<|qt (x_field (o:=0) T.fa130_1 rfl)<|qt (x_load1 T.na3 rfl (H83.ld 0 rfl 1 rfl))<|qt (addN (b:=1) rfl rfl)<|qt (x_nilCheck rfl)<|qt (x_field (o:=0) T.fa130_1 rfl)<|?_
           refine st_s<|Est (v:=.int .i64 ((((a+1)+1):Nat):Int)) H83 0 T.sz3 rfl rfl rfl rfl rfl rfl fun w169 H170=>nl<|k168 _ _<|seqK fun Q171 kn172 kr173 ke174=>?_
           refine sr fun Q175 k176=>qt mv<|nl<|k176 _ _<|blockK fun Q177 kn178 kr179 kx180 kb181=>?_
           refine sr fun Q182 k183=>qt (x_eqlN (b:=110) rfl rfl)<|qt asg<|nl<|k183 _ _<|cnd (p:=(pk t (a+1))=110) rfl (fun h184=>?_) (fun h184=>?_)
           ·refine sr fun Q185 k186=>qt asg<|nl<|k186 _ _<|ret<|kr179 _ _<|kr173 _ _<|leave1 (P:=Tryz.prog) (fn:=Tryz.f303) (t:=4) (v:=.int .u8 ((10:Nat):Int)) rfl rfl<|?_
            exact ⟨10,((a+1)+1),bd,rfl,Stp.goes hb (piece_4 (n:=n) (t:=t) (a:=a) (by omega) (by omega) (by omega)),by omega,(H170.pick [0] (by decide))⟩
           ·refine sr fun Q187 k188=>qt (x_eqlN (b:=116) rfl rfl)<|qt asg<|nl<|k188 _ _<|cnd (p:=(pk t (a+1))=116) rfl (fun h189=>?_) (fun h189=>?_)
            ·refine sr fun Q190 k191=>qt asg<|nl<|k191 _ _<|ret<|kr179 _ _<|kr173 _ _<|leave1 (P:=Tryz.prog) (fn:=Tryz.f303) (t:=4) (v:=.int .u8 ((9:Nat):Int)) rfl rfl<|?_
             exact ⟨9,((a+1)+1),bd,rfl,Stp.goes hb (piece_4 (n:=n) (t:=t) (a:=a) (by omega) (by omega) (by omega)),by omega,(H170.pick [0] (by decide))⟩
            ·refine sr fun Q192 k193=>qt (x_eqlN (b:=120) rfl rfl)<|qt asg<|nl<|k193 _ _<|cnd (p:=(pk t (a+1))=120) rfl (fun h194=>?_) (fun h194=>?_)
             ·refine sr fun Q195 k196=>qt mv<|?_
              have H203:Hp S w0 w169 ([RdC bb t ((a+1)+1) bd]++[]):=(H170.pick [0] (by decide))
              refine cl T.cf336 (hex336 t _ bb ((a+1)+1) bd _ H203.startL hs (by omega) (by assumption)) rfl fun _ w204 ⟨x200,a201,b202,er,hst198,hle199,K197⟩=>⟨_,er,?_⟩
              have H205:=H203.callL K197
              have hlhst198:=hst198.2
              refine qt asg<|nl<|k196 _ _<|seqK fun Q206 kn207 kr208 ke209=>?_
              refine sr fun Q210 k211=>qt mv<|qt (x_nilCheck rfl)<|qt (x_field (o:=0) T.fa130_2 rfl)<|qt (x_load1 T.na4 rfl (H205.ld 0 rfl 2 rfl))<|nl<|k211 _ _<|cnd (p:=b202=true) rfl (fun h212=>?_) (fun h212=>?_)
              ·refine sr fun Q213 k214=>qt asg<|nl<|k214 _ _<|ret<|kr208 _ _<|kr179 _ _<|kr173 _ _<|leave1 (P:=Tryz.prog) (fn:=Tryz.f303) (t:=4) (v:=.int .u8 ((0:Nat):Int)) rfl rfl<|?_
               exact ⟨0,a201,b202,rfl,Stp.off hb ((hst198.1.th (g:=fun h j=>(hexR t j).th fun k j'=>.ok (16 * h+k) j') (Stp.was (by assumption))).eq (piece_5 (n:=n) (t:=t) (a:=a) (by omega) (by omega) (by omega))),by omega,(H205.pick [0] (by decide))⟩
              ·refine skip<|kn207 _ _<|?_
               refine sr fun Q215 k216=>qt mv<|qt (x_mul8 (a:=16) (c:=16 * x200) rfl rfl rfl (by omega))<|qt mv<|?_
               have H223:Hp S w0 w204 ([RdC bb t a201 b202]++[]):=(H205.pick [0] (by decide))
               refine cl T.cf336 (hex336 t _ bb a201 b202 _ H223.startL hs (by omega) (by assumption)) rfl fun _ w224 ⟨x220,a221,b222,er,hst218,hle219,K217⟩=>⟨_,er,?_⟩
               have H225:=H223.callL K217
               have hlhst218:=hst218.2
               refine qt (x_add8 (c:=(16 * x200)+x220) rfl rfl rfl (by omega))<|qt asg<|nl<|k216 _ _<|ret<|kr179 _ _<|kr173 _ _<|leave1 (P:=Tryz.prog) (fn:=Tryz.f303) (t:=4) (v:=.int .u8 ((((16 * x200)+x220):Nat):Int)) rfl rfl<|?_
               exact ⟨((16 * x200)+x220),a221,b222,rfl,Stp.off hb ((hst198.1.th (g:=fun h j=>(hexR t j).th fun k j'=>.ok (16 * h+k) j') (hst218.1.th (g:=fun k j'=>.ok (16 * x200+k) j') Stp.ok)).eq (piece_5 (n:=n) (t:=t) (a:=a) (by omega) (by omega) (by omega))),by omega,(H225.pick [0] (by decide))⟩
             ·refine skip<|kn178 _ _<|kn172 _ _<|?_
              refine sr fun Q226 k227=>qt mv<|qt asg<|nl<|k227 _ _<|ret<|leave1 (P:=Tryz.prog) (fn:=Tryz.f303) (t:=4) (v:=.int .u8 ((pk t (a+1):Nat):Int)) rfl rfl<|?_
              exact ⟨pk t (a+1),((a+1)+1),bd,rfl,Stp.goes hb (piece_4 (n:=n) (t:=t) (a:=a) (by omega) (by omega) (by omega)),by omega,(H170.pick [0] (by decide))⟩
         ·refine st_gn 13 54 rfl rfl (by decide) rfl<|st_gn 13 54 rfl rfl (by decide) rfl<|st_gq 2 43 rfl rfl (by decide)<|qt (pkF rfl)<|st_gq 2 43 rfl rfl (by decide)<|qt mv<|st_gn 17 58 rfl rfl (by decide) rfl<|st_gn 17 58 rfl rfl (by decide) rfl<|st_gq 2 43 rfl rfl (by decide)<|qt (pkF rfl)<|qt (pkF rfl)<|nl<|k79 _ _<|cndF rfl<|skip<|kn75 _ _<|?_
          refine sr fun Q228 k229=>qt mv<|qt (x_nilCheck rfl)<|qt (x_field (o:=0) T.fa130_1 rfl)<|qt (x_load1 T.na3 rfl (H83.ld 0 rfl 1 rfl))<|qt (addN (b:=1) rfl rfl)<|qt (x_nilCheck rfl)<|qt (x_field (o:=0) T.fa130_1 rfl)<|?_
          refine st_s<|Est (v:=.int .i64 ((((a+1)+1):Nat):Int)) H83 0 T.sz3 rfl rfl rfl rfl rfl rfl fun w230 H231=>nl<|k229 _ _<|seqK fun Q232 kn233 kr234 ke235=>?_
          refine sr fun Q236 k237=>qt mv<|nl<|k237 _ _<|blockK fun Q238 kn239 kr240 kx241 kb242=>?_
          refine sr fun Q243 k244=>qt (x_eqlN (b:=110) rfl rfl)<|qt asg<|nl<|k244 _ _<|cnd (p:=(pk t (a+1))=110) rfl (fun h245=>?_) (fun h245=>?_)
          ·refine sr fun Q246 k247=>qt asg<|nl<|k247 _ _<|ret<|kr240 _ _<|kr234 _ _<|leave1 (P:=Tryz.prog) (fn:=Tryz.f303) (t:=4) (v:=.int .u8 ((10:Nat):Int)) rfl rfl<|?_
           exact ⟨10,((a+1)+1),bd,rfl,Stp.goes hb (piece_4 (n:=n) (t:=t) (a:=a) (by omega) (by omega) (by omega)),by omega,(H231.pick [0] (by decide))⟩
          ·refine sr fun Q248 k249=>qt (x_eqlN (b:=116) rfl rfl)<|qt asg<|nl<|k249 _ _<|cnd (p:=(pk t (a+1))=116) rfl (fun h250=>?_) (fun h250=>?_)
           ·refine sr fun Q251 k252=>qt asg<|nl<|k252 _ _<|ret<|kr240 _ _<|kr234 _ _<|leave1 (P:=Tryz.prog) (fn:=Tryz.f303) (t:=4) (v:=.int .u8 ((9:Nat):Int)) rfl rfl<|?_
            exact ⟨9,((a+1)+1),bd,rfl,Stp.goes hb (piece_4 (n:=n) (t:=t) (a:=a) (by omega) (by omega) (by omega)),by omega,(H231.pick [0] (by decide))⟩
           ·refine sr fun Q253 k254=>qt (x_eqlN (b:=120) rfl rfl)<|qt asg<|nl<|k254 _ _<|cnd (p:=(pk t (a+1))=120) rfl (fun h255=>?_) (fun h255=>?_)
            ·refine sr fun Q256 k257=>qt mv<|?_
             have H264:Hp S w0 w230 ([RdC bb t ((a+1)+1) bd]++[]):=(H231.pick [0] (by decide))
             refine cl T.cf336 (hex336 t _ bb ((a+1)+1) bd _ H264.startL hs (by omega) (by assumption)) rfl fun _ w265 ⟨x261,a262,b263,er,hst259,hle260,K258⟩=>⟨_,er,?_⟩
             have H266:=H264.callL K258
             have hlhst259:=hst259.2
             refine qt asg<|nl<|k257 _ _<|seqK fun Q267 kn268 kr269 ke270=>?_
             refine sr fun Q271 k272=>qt mv<|qt (x_nilCheck rfl)<|qt (x_field (o:=0) T.fa130_2 rfl)<|qt (x_load1 T.na4 rfl (H266.ld 0 rfl 2 rfl))<|nl<|k272 _ _<|cnd (p:=b263=true) rfl (fun h273=>?_) (fun h273=>?_)
             ·refine sr fun Q274 k275=>qt asg<|nl<|k275 _ _<|ret<|kr269 _ _<|kr240 _ _<|kr234 _ _<|leave1 (P:=Tryz.prog) (fn:=Tryz.f303) (t:=4) (v:=.int .u8 ((0:Nat):Int)) rfl rfl<|?_
              exact ⟨0,a262,b263,rfl,Stp.off hb ((hst259.1.th (g:=fun h j=>(hexR t j).th fun k j'=>.ok (16 * h+k) j') (Stp.was (by assumption))).eq (piece_5 (n:=n) (t:=t) (a:=a) (by omega) (by omega) (by omega))),by omega,(H266.pick [0] (by decide))⟩
             ·refine skip<|kn268 _ _<|?_
              refine sr fun Q276 k277=>qt mv<|qt (x_mul8 (a:=16) (c:=16 * x261) rfl rfl rfl (by omega))<|qt mv<|?_
              have H284:Hp S w0 w265 ([RdC bb t a262 b263]++[]):=(H266.pick [0] (by decide))
              refine cl T.cf336 (hex336 t _ bb a262 b263 _ H284.startL hs (by omega) (by assumption)) rfl fun _ w285 ⟨x281,a282,b283,er,hst279,hle280,K278⟩=>⟨_,er,?_⟩
              have H286:=H284.callL K278
              have hlhst279:=hst279.2
              refine qt (x_add8 (c:=(16 * x261)+x281) rfl rfl rfl (by omega))<|qt asg<|nl<|k277 _ _<|ret<|kr240 _ _<|kr234 _ _<|leave1 (P:=Tryz.prog) (fn:=Tryz.f303) (t:=4) (v:=.int .u8 ((((16 * x261)+x281):Nat):Int)) rfl rfl<|?_
              exact ⟨((16 * x261)+x281),a282,b283,rfl,Stp.off hb ((hst259.1.th (g:=fun h j=>(hexR t j).th fun k j'=>.ok (16 * h+k) j') (hst279.1.th (g:=fun k j'=>.ok (16 * x261+k) j') Stp.ok)).eq (piece_5 (n:=n) (t:=t) (a:=a) (by omega) (by omega) (by omega))),by omega,(H286.pick [0] (by decide))⟩
            ·refine skip<|kn239 _ _<|kn233 _ _<|?_
             refine sr fun Q287 k288=>qt mv<|qt asg<|nl<|k288 _ _<|ret<|leave1 (P:=Tryz.prog) (fn:=Tryz.f303) (t:=4) (v:=.int .u8 ((pk t (a+1):Nat):Int)) rfl rfl<|?_
             exact ⟨pk t (a+1),((a+1)+1),bd,rfl,Stp.goes hb (piece_4 (n:=n) (t:=t) (a:=a) (by omega) (by omega) (by omega)),by omega,(H231.pick [0] (by decide))⟩
        ·refine st_gn 9 50 rfl rfl (by decide) rfl<|st_gn 9 50 rfl rfl (by decide) rfl<|st_gq 2 43 rfl rfl (by decide)<|qt (pkF rfl)<|st_gq 2 43 rfl rfl (by decide)<|qt mv<|st_gn 13 54 rfl rfl (by decide) rfl<|st_gn 13 54 rfl rfl (by decide) rfl<|st_gq 2 43 rfl rfl (by decide)<|qt (pkF rfl)<|st_gq 2 43 rfl rfl (by decide)<|qt mv<|st_gn 17 58 rfl rfl (by decide) rfl<|st_gn 17 58 rfl rfl (by decide) rfl<|st_gq 2 43 rfl rfl (by decide)<|qt (pkF rfl)<|qt (pkF rfl)<|nl<|k79 _ _<|cndF rfl<|skip<|kn75 _ _<|?_
         refine sr fun Q289 k290=>qt mv<|qt (x_nilCheck rfl)<|qt (x_field (o:=0) T.fa130_1 rfl)<|qt (x_load1 T.na3 rfl (H83.ld 0 rfl 1 rfl))<|qt (addN (b:=1) rfl rfl)<|qt (x_nilCheck rfl)<|qt (x_field (o:=0) T.fa130_1 rfl)<|?_
         refine st_s<|Est (v:=.int .i64 ((((a+1)+1):Nat):Int)) H83 0 T.sz3 rfl rfl rfl rfl rfl rfl fun w291 H292=>nl<|k290 _ _<|seqK fun Q293 kn294 kr295 ke296=>?_
         refine sr fun Q297 k298=>qt mv<|nl<|k298 _ _<|blockK fun Q299 kn300 kr301 kx302 kb303=>?_
         refine sr fun Q304 k305=>qt (x_eqlN (b:=110) rfl rfl)<|qt asg<|nl<|k305 _ _<|cnd (p:=(pk t (a+1))=110) rfl (fun h306=>?_) (fun h306=>?_)
         ·refine sr fun Q307 k308=>qt asg<|nl<|k308 _ _<|ret<|kr301 _ _<|kr295 _ _<|leave1 (P:=Tryz.prog) (fn:=Tryz.f303) (t:=4) (v:=.int .u8 ((10:Nat):Int)) rfl rfl<|?_
          exact ⟨10,((a+1)+1),bd,rfl,Stp.goes hb (piece_4 (n:=n) (t:=t) (a:=a) (by omega) (by omega) (by omega)),by omega,(H292.pick [0] (by decide))⟩
         ·refine sr fun Q309 k310=>qt (x_eqlN (b:=116) rfl rfl)<|qt asg<|nl<|k310 _ _<|cnd (p:=(pk t (a+1))=116) rfl (fun h311=>?_) (fun h311=>?_)
          ·refine sr fun Q312 k313=>qt asg<|nl<|k313 _ _<|ret<|kr301 _ _<|kr295 _ _<|leave1 (P:=Tryz.prog) (fn:=Tryz.f303) (t:=4) (v:=.int .u8 ((9:Nat):Int)) rfl rfl<|?_
           exact ⟨9,((a+1)+1),bd,rfl,Stp.goes hb (piece_4 (n:=n) (t:=t) (a:=a) (by omega) (by omega) (by omega)),by omega,(H292.pick [0] (by decide))⟩
          ·refine sr fun Q314 k315=>qt (x_eqlN (b:=120) rfl rfl)<|qt asg<|nl<|k315 _ _<|cnd (p:=(pk t (a+1))=120) rfl (fun h316=>?_) (fun h316=>?_)
           ·refine sr fun Q317 k318=>qt mv<|?_
            have H325:Hp S w0 w291 ([RdC bb t ((a+1)+1) bd]++[]):=(H292.pick [0] (by decide))
            refine cl T.cf336 (hex336 t _ bb ((a+1)+1) bd _ H325.startL hs (by omega) (by assumption)) rfl fun _ w326 ⟨x322,a323,b324,er,hst320,hle321,K319⟩=>⟨_,er,?_⟩
            have H327:=H325.callL K319
            have hlhst320:=hst320.2
            refine qt asg<|nl<|k318 _ _<|seqK fun Q328 kn329 kr330 ke331=>?_
            refine sr fun Q332 k333=>qt mv<|qt (x_nilCheck rfl)<|qt (x_field (o:=0) T.fa130_2 rfl)<|qt (x_load1 T.na4 rfl (H327.ld 0 rfl 2 rfl))<|nl<|k333 _ _<|cnd (p:=b324=true) rfl (fun h334=>?_) (fun h334=>?_)
            ·refine sr fun Q335 k336=>qt asg<|nl<|k336 _ _<|ret<|kr330 _ _<|kr301 _ _<|kr295 _ _<|leave1 (P:=Tryz.prog) (fn:=Tryz.f303) (t:=4) (v:=.int .u8 ((0:Nat):Int)) rfl rfl<|?_
             exact ⟨0,a323,b324,rfl,Stp.off hb ((hst320.1.th (g:=fun h j=>(hexR t j).th fun k j'=>.ok (16 * h+k) j') (Stp.was (by assumption))).eq (piece_5 (n:=n) (t:=t) (a:=a) (by omega) (by omega) (by omega))),by omega,(H327.pick [0] (by decide))⟩
            ·refine skip<|kn329 _ _<|?_
             refine sr fun Q337 k338=>qt mv<|qt (x_mul8 (a:=16) (c:=16 * x322) rfl rfl rfl (by omega))<|qt mv<|?_
             have H345:Hp S w0 w326 ([RdC bb t a323 b324]++[]):=(H327.pick [0] (by decide))
             refine cl T.cf336 (hex336 t _ bb a323 b324 _ H345.startL hs (by omega) (by assumption)) rfl fun _ w346 ⟨x342,a343,b344,er,hst340,hle341,K339⟩=>⟨_,er,?_⟩
             have H347:=H345.callL K339
             have hlhst340:=hst340.2
             refine qt (x_add8 (c:=(16 * x322)+x342) rfl rfl rfl (by omega))<|qt asg<|nl<|k338 _ _<|ret<|kr301 _ _<|kr295 _ _<|leave1 (P:=Tryz.prog) (fn:=Tryz.f303) (t:=4) (v:=.int .u8 ((((16 * x322)+x342):Nat):Int)) rfl rfl<|?_
             exact ⟨((16 * x322)+x342),a343,b344,rfl,Stp.off hb ((hst320.1.th (g:=fun h j=>(hexR t j).th fun k j'=>.ok (16 * h+k) j') (hst340.1.th (g:=fun k j'=>.ok (16 * x322+k) j') Stp.ok)).eq (piece_5 (n:=n) (t:=t) (a:=a) (by omega) (by omega) (by omega))),by omega,(H347.pick [0] (by decide))⟩
           ·refine skip<|kn300 _ _<|kn294 _ _<|?_
            refine sr fun Q348 k349=>qt mv<|qt asg<|nl<|k349 _ _<|ret<|leave1 (P:=Tryz.prog) (fn:=Tryz.f303) (t:=4) (v:=.int .u8 ((pk t (a+1):Nat):Int)) rfl rfl<|?_
            exact ⟨pk t (a+1),((a+1)+1),bd,rfl,Stp.goes hb (piece_4 (n:=n) (t:=t) (a:=a) (by omega) (by omega) (by omega)),by omega,(H292.pick [0] (by decide))⟩
       ·refine st_gn 5 46 rfl rfl (by decide) rfl<|st_gn 5 46 rfl rfl (by decide) rfl<|st_gq 2 43 rfl rfl (by decide)<|qt (pkF rfl)<|st_gq 2 43 rfl rfl (by decide)<|qt mv<|st_gn 9 50 rfl rfl (by decide) rfl<|st_gn 9 50 rfl rfl (by decide) rfl<|st_gq 2 43 rfl rfl (by decide)<|qt (pkF rfl)<|st_gq 2 43 rfl rfl (by decide)<|qt mv<|st_gn 13 54 rfl rfl (by decide) rfl<|st_gn 13 54 rfl rfl (by decide) rfl<|st_gq 2 43 rfl rfl (by decide)<|qt (pkF rfl)<|st_gq 2 43 rfl rfl (by decide)<|qt mv<|st_gn 17 58 rfl rfl (by decide) rfl<|st_gn 17 58 rfl rfl (by decide) rfl<|st_gq 2 43 rfl rfl (by decide)<|qt (pkF rfl)<|qt (pkF rfl)<|nl<|k79 _ _<|cndF rfl<|skip<|kn75 _ _<|?_
        refine sr fun Q350 k351=>qt mv<|qt (x_nilCheck rfl)<|qt (x_field (o:=0) T.fa130_1 rfl)<|qt (x_load1 T.na3 rfl (H83.ld 0 rfl 1 rfl))<|qt (addN (b:=1) rfl rfl)<|qt (x_nilCheck rfl)<|qt (x_field (o:=0) T.fa130_1 rfl)<|?_
        refine st_s<|Est (v:=.int .i64 ((((a+1)+1):Nat):Int)) H83 0 T.sz3 rfl rfl rfl rfl rfl rfl fun w352 H353=>nl<|k351 _ _<|seqK fun Q354 kn355 kr356 ke357=>?_
        refine sr fun Q358 k359=>qt mv<|nl<|k359 _ _<|blockK fun Q360 kn361 kr362 kx363 kb364=>?_
        refine sr fun Q365 k366=>qt (x_eqlN (b:=110) rfl rfl)<|qt asg<|nl<|k366 _ _<|cnd (p:=(pk t (a+1))=110) rfl (fun h367=>?_) (fun h367=>?_)
        ·refine sr fun Q368 k369=>qt asg<|nl<|k369 _ _<|ret<|kr362 _ _<|kr356 _ _<|leave1 (P:=Tryz.prog) (fn:=Tryz.f303) (t:=4) (v:=.int .u8 ((10:Nat):Int)) rfl rfl<|?_
         exact ⟨10,((a+1)+1),bd,rfl,Stp.goes hb (piece_4 (n:=n) (t:=t) (a:=a) (by omega) (by omega) (by omega)),by omega,(H353.pick [0] (by decide))⟩
        ·refine sr fun Q370 k371=>qt (x_eqlN (b:=116) rfl rfl)<|qt asg<|nl<|k371 _ _<|cnd (p:=(pk t (a+1))=116) rfl (fun h372=>?_) (fun h372=>?_)
         ·refine sr fun Q373 k374=>qt asg<|nl<|k374 _ _<|ret<|kr362 _ _<|kr356 _ _<|leave1 (P:=Tryz.prog) (fn:=Tryz.f303) (t:=4) (v:=.int .u8 ((9:Nat):Int)) rfl rfl<|?_
          exact ⟨9,((a+1)+1),bd,rfl,Stp.goes hb (piece_4 (n:=n) (t:=t) (a:=a) (by omega) (by omega) (by omega)),by omega,(H353.pick [0] (by decide))⟩
         ·refine sr fun Q375 k376=>qt (x_eqlN (b:=120) rfl rfl)<|qt asg<|nl<|k376 _ _<|cnd (p:=(pk t (a+1))=120) rfl (fun h377=>?_) (fun h377=>?_)
          ·refine sr fun Q378 k379=>qt mv<|?_
           have H386:Hp S w0 w352 ([RdC bb t ((a+1)+1) bd]++[]):=(H353.pick [0] (by decide))
           refine cl T.cf336 (hex336 t _ bb ((a+1)+1) bd _ H386.startL hs (by omega) (by assumption)) rfl fun _ w387 ⟨x383,a384,b385,er,hst381,hle382,K380⟩=>⟨_,er,?_⟩
           have H388:=H386.callL K380
           have hlhst381:=hst381.2
           refine qt asg<|nl<|k379 _ _<|seqK fun Q389 kn390 kr391 ke392=>?_
           refine sr fun Q393 k394=>qt mv<|qt (x_nilCheck rfl)<|qt (x_field (o:=0) T.fa130_2 rfl)<|qt (x_load1 T.na4 rfl (H388.ld 0 rfl 2 rfl))<|nl<|k394 _ _<|cnd (p:=b385=true) rfl (fun h395=>?_) (fun h395=>?_)
           ·refine sr fun Q396 k397=>qt asg<|nl<|k397 _ _<|ret<|kr391 _ _<|kr362 _ _<|kr356 _ _<|leave1 (P:=Tryz.prog) (fn:=Tryz.f303) (t:=4) (v:=.int .u8 ((0:Nat):Int)) rfl rfl<|?_
            exact ⟨0,a384,b385,rfl,Stp.off hb ((hst381.1.th (g:=fun h j=>(hexR t j).th fun k j'=>.ok (16 * h+k) j') (Stp.was (by assumption))).eq (piece_5 (n:=n) (t:=t) (a:=a) (by omega) (by omega) (by omega))),by omega,(H388.pick [0] (by decide))⟩
           ·refine skip<|kn390 _ _<|?_
            refine sr fun Q398 k399=>qt mv<|qt (x_mul8 (a:=16) (c:=16 * x383) rfl rfl rfl (by omega))<|qt mv<|?_
            have H406:Hp S w0 w387 ([RdC bb t a384 b385]++[]):=(H388.pick [0] (by decide))
            refine cl T.cf336 (hex336 t _ bb a384 b385 _ H406.startL hs (by omega) (by assumption)) rfl fun _ w407 ⟨x403,a404,b405,er,hst401,hle402,K400⟩=>⟨_,er,?_⟩
            have H408:=H406.callL K400
            have hlhst401:=hst401.2
            refine qt (x_add8 (c:=(16 * x383)+x403) rfl rfl rfl (by omega))<|qt asg<|nl<|k399 _ _<|ret<|kr362 _ _<|kr356 _ _<|leave1 (P:=Tryz.prog) (fn:=Tryz.f303) (t:=4) (v:=.int .u8 ((((16 * x383)+x403):Nat):Int)) rfl rfl<|?_
            exact ⟨((16 * x383)+x403),a404,b405,rfl,Stp.off hb ((hst381.1.th (g:=fun h j=>(hexR t j).th fun k j'=>.ok (16 * h+k) j') (hst401.1.th (g:=fun k j'=>.ok (16 * x383+k) j') Stp.ok)).eq (piece_5 (n:=n) (t:=t) (a:=a) (by omega) (by omega) (by omega))),by omega,(H408.pick [0] (by decide))⟩
          ·refine skip<|kn361 _ _<|kn355 _ _<|?_
           refine sr fun Q409 k410=>qt mv<|qt asg<|nl<|k410 _ _<|ret<|leave1 (P:=Tryz.prog) (fn:=Tryz.f303) (t:=4) (v:=.int .u8 ((pk t (a+1):Nat):Int)) rfl rfl<|?_
           exact ⟨pk t (a+1),((a+1)+1),bd,rfl,Stp.goes hb (piece_4 (n:=n) (t:=t) (a:=a) (by omega) (by omega) (by omega)),by omega,(H353.pick [0] (by decide))⟩
end Go.Proofs.YtljfgmedbjlkaaaGreat
namespace Go.Proofs.YtljfgmedbjlkaaaGreat
open Go.RowKit Go.Eng Go.QP
theorem T.cf118:CF Tryz.prog 118:=fun _ _=>by kernel_rfl
theorem T.cf303:CF Tryz.prog 303:=fun _ _=>by kernel_rfl
theorem T.cf265:CF Tryz.prog 265:=fun _ _=>by kernel_rfl
theorem T.cf266:CF Tryz.prog 266:=fun _ _=>by kernel_rfl
theorem T.cf116:CF Tryz.prog 116:=fun _ _=>by kernel_rfl
theorem text266 (t:ByteArray) (S:Nat→Prop) (bb a:Nat) (bd:Bool) (w0:World) (Hx:Hp S w0 w0 [RdC bb t a bd]) (hs:t.size≤68719476736) (ha:a≤t.size) (hb:¬ bd=true) (h34:pk t a=34) :
  Calls Tryz.prog 266 #[.pointer (some ⟨bb,0,none⟩)] w0 fun e w'=>∃ s a' b',e= .returned (.string s)∧Stp (textR ((bl t).drop a) a) bd a s a' b'∧a'≤t.size∧Hp S w0 w' [RdC bb t a' b']:=by
 have H0:Hp S w0 w0 [RdC bb t a bd]:=Hx
 refine enter Tryz.func266 rfl 33 Tryz.ntmps266 rfl<|?_
 refine sr fun Q1 k2=>qt asg<|nl<|k2 _ _<|?_
 refine sr fun Q3 k4=>qt mv<|?_
 have H10:Hp S w0 w0 ([RdC bb t a bd]++[]):=(H0.pick [0] (by decide))
 refine cl T.cf118 (sign118 t _ bb a bd _ H10.startL hs (by omega) 34 (by decide)) rfl fun _ w11 ⟨a8,b9,er,hst6,hle7,K5⟩=>⟨_,er,?_⟩
 have H12:=H10.callL K5
 refine nl<|k4 _ _<|?_
 refine sr fun Q13 k14=>qt asg<|nl<|k14 _ _<|seqK fun Q15 kn16 kr17 ke18=>blockK fun Q19 kn20 kr21 kx22 kb23=>?_
 refine loopK (α:=Nat × Bool × Nat × (Option Addr) × Nat × Nat × (List Nat)) (fun x=>[(0,.pointer (some ⟨bb,0,none⟩)),(3,.slice x.2.2.2.1 x.2.2.2.2.1 x.2.2.2.2.2.1)]) (fun x w24=>Hp S w0 w24 [cB bb 130 [.string t,.int .i64 ((x.1:Nat):Int),.bool (decide (x.2.1=true))],cQ 5 eY x.2.2.2.1 x.2.2.2.2.1 x.2.2.2.2.2.1 x.2.2.2.2.2.2]∧x.2.2.2.2.1=x.2.2.2.2.2.2.length∧TxI t (quotedP ((bl t).drop (a+1)) [] (a+1)) x.1 x.2.1 x.2.2.1 x.2.2.2.2.2.2) (fun x=>x.2.2.1) (a8,b9,(t.size-a8+1),none,0,0,[]) ⟨rfl,rfl,trivial⟩ ?_ ?_
 ·refine ⟨((H12.nilQ 5 eY).pick [1,0] (by decide)),?_⟩
  try dsimp only
  exact ⟨rfl,TxI.start h34 hb hst6 (by omega)⟩
 ·rintro τ25 ⟨i,bv,mm,a2,m2,c2,xs⟩ w26 ⟨hx27,⟨hm,hq⟩⟩
  try dsimp only at hm hq
  have hz28:=hx27.le
  intro Q29 kn30 kr31 ke32
  dsimp only at hx27 ⊢
  have hi:=hq.1
  have hxl:=hq.2.1
  refine seqK fun Q33 kn34 kr35 ke36=>?_
  refine sr fun Q37 k38=>qt mv<|qt (x_nilCheck rfl)<|qt (x_field (o:=0) T.fa130_2 rfl)<|qt (x_load1 T.na4 rfl (hx27.ld 0 rfl 2 rfl))<|qt (x_notP rfl)<|st_if (p:=¬ (bv=true)) (x_move rfl) (fun h39=>?_) (fun h39=>?_)
  ·refine st_gq 5 12 rfl rfl (by decide)<|qt mv<|st_gq 5 12 rfl rfl (by decide)<|?_
   have H41:Hp S w0 w26 ([RdC bb t i bv]++[cQ 5 eY a2 m2 c2 xs]):=(hx27.pick [0,1] (by decide))
   refine cl T.cf63 (end63 t _ bb i bv _ H41.startL hs (by omega)) rfl fun _ w42 ⟨er,K40⟩=>⟨_,er,?_⟩
   have H43:=H41.callL K40
   refine st_gq 5 12 rfl rfl (by decide)<|st_if (p:=t.size≤i) (x_move rfl) (fun h44=>?_) (fun h44=>?_)
   ·refine st_gn 8 15 rfl rfl (by decide) rfl<|st_gn 8 15 rfl rfl (by decide) rfl<|st_gn 8 15 rfl rfl (by decide) rfl<|st_gq 5 12 rfl rfl (by decide)<|qt (pkT rfl)<|qt (pkT rfl)<|nl<|k38 _ _<|cndT rfl<|skip<|kn34 _ _<|blockK fun Q45 kn46 kr47 kx48 kb49=>?_
    refine sr fun Q50 k51=>qt mv<|qt mv<|qt (x_lenSl rfl Tryz.underlying120 rfl)<|?_
    have H58:Hp S w0 w42 ([RdC bb t i bv]++[cQ 5 eY a2 m2 c2 xs]):=(H43.pick [0,1] (by decide))
    refine cl T.cf303 (piece303 t _ bb i bv _ H58.startL hs (by omega) m2 (by assumption)) rfl fun _ w59 ⟨x55,a56,b57,er,hst53,hle54,K52⟩=>⟨_,er,?_⟩
    have H60:=H58.callL K52
    refine qt asg<|nl<|k51 _ _<|region<|qt mv<|qt mv<|?_
    refine st_e<|Ebs (cs:=[.int .u8 ((x55:Nat):Int)]) (e:=5) H60 (fun _=>by kernel_rfl) fun b61 w62 H63 x64=>?_
    refine st_e<|EapQ H63 2 T.sl120 rfl rfl rfl (H63.lst (E:=eY) 0 rfl x55 rfl) (by omega) rfl rfl fun a65 c66 w67 H68=>qt asg<|nl<|kn46 _ _<|?_
    refine kn30 _ (a56,b57,(if b57=true then 0 else t.size-a56+1),a65,(m2+1),c66,(xs++[x55])) _ ⟨rfl,rfl,trivial⟩ ⟨(H68.pick [1,2] (by decide)),?_⟩ ?_
    ·try dsimp only
     exact ⟨by rw [List.length_append,hm];rfl,(TxI.step hq (by assumption) (by first | assumption | (rw [pk_off (by omega)];decide)) (by rw [← hm];exact hst53) (by omega)).1⟩
    ·exact (TxI.step hq (by assumption) (by first | assumption | (rw [pk_off (by omega)];decide)) (by rw [← hm];exact hst53) (by omega)).2
   ·refine st_gq 8 15 rfl rfl (by decide)<|qt mv<|st_gq 8 15 rfl rfl (by decide)<|?_
    have H70:Hp S w0 w42 ([RdC bb t i bv]++[cQ 5 eY a2 m2 c2 xs]):=(H43.pick [0,1] (by decide))
    refine cl T.cf115 (peek115 t _ bb i bv _ H70.startL hs (by omega)) rfl fun _ w71 ⟨er,K69⟩=>⟨_,er,?_⟩
    have H72:=H70.callL K69
    refine st_gq 8 15 rfl rfl (by decide)<|qt (x_neqN (b:=34) rfl rfl)<|st_gq 5 12 rfl rfl (by decide)<|qt (pkF rfl)<|qt (pkT rfl)<|nl<|k38 _ _<|cnd (p:=(pk t i)≠34) rfl (fun h73=>?_) (fun h73=>?_)
    ·refine skip<|kn34 _ _<|blockK fun Q74 kn75 kr76 kx77 kb78=>?_
     refine sr fun Q79 k80=>qt mv<|qt mv<|qt (x_lenSl rfl Tryz.underlying120 rfl)<|?_
     have H87:Hp S w0 w71 ([RdC bb t i bv]++[cQ 5 eY a2 m2 c2 xs]):=(H72.pick [0,1] (by decide))
     refine cl T.cf303 (piece303 t _ bb i bv _ H87.startL hs (by omega) m2 (by assumption)) rfl fun _ w88 ⟨x84,a85,b86,er,hst82,hle83,K81⟩=>⟨_,er,?_⟩
     have H89:=H87.callL K81
     refine qt asg<|nl<|k80 _ _<|region<|qt mv<|qt mv<|?_
     refine st_e<|Ebs (cs:=[.int .u8 ((x84:Nat):Int)]) (e:=5) H89 (fun _=>by kernel_rfl) fun b90 w91 H92 x93=>?_
     refine st_e<|EapQ H92 2 T.sl120 rfl rfl rfl (H92.lst (E:=eY) 0 rfl x84 rfl) (by omega) rfl rfl fun a94 c95 w96 H97=>qt asg<|nl<|kn75 _ _<|?_
     refine kn30 _ (a85,b86,(if b86=true then 0 else t.size-a85+1),a94,(m2+1),c95,(xs++[x84])) _ ⟨rfl,rfl,trivial⟩ ⟨(H97.pick [1,2] (by decide)),?_⟩ ?_
     ·try dsimp only
      exact ⟨by rw [List.length_append,hm];rfl,(TxI.step hq (by assumption) (by first | assumption | (rw [pk_off (by omega)];decide)) (by rw [← hm];exact hst82) (by omega)).1⟩
     ·exact (TxI.step hq (by assumption) (by first | assumption | (rw [pk_off (by omega)];decide)) (by rw [← hm];exact hst82) (by omega)).2
    ·refine exit<|ke36 _ _ _<|ke32 _ _ _<|kb23 _ _<|kn16 _ _<|?_
     refine sr fun Q98 k99=>qt mv<|?_
     have H105:Hp S w0 w71 ([RdC bb t i bv]++[cQ 5 eY a2 m2 c2 xs]):=(H72.pick [0,1] (by decide))
     refine cl T.cf118 (sign118 t _ bb i bv _ H105.startL hs (by omega) 34 (by decide)) rfl fun _ w106 ⟨a103,b104,er,hst101,hle102,K100⟩=>⟨_,er,?_⟩
     have H107:=H105.callL K100
     refine nl<|k99 _ _<|?_
     refine sr fun Q108 k109=>qt mv<|qt (x_toS Tryz.underlying120 Tryz.underlying5 Tryz.underlying9 rfl (H107.srQ 1 rfl))<|qt asg<|nl<|k109 _ _<|ret<|leave1 (P:=Tryz.prog) (fn:=Tryz.f266) (t:=2) (v:=.string (sN xs)) rfl rfl<|?_
     exact ⟨_,a103,b104,rfl,by first | exact TxI.fin hq (by assumption) hb h34 (by omega) hst101 | exact TxI.bad hq (by first | assumption | simp_all) hb h34 hst101,by omega,(H107.pick [0] (by decide))⟩
  ·refine st_gn 5 12 rfl rfl (by decide) rfl<|st_gn 5 12 rfl rfl (by decide) rfl<|st_gn 5 12 rfl rfl (by decide) rfl<|st_gu 8 15 rfl rfl (by decide)<|st_gu 8 15 rfl rfl (by decide)<|st_gu 8 15 rfl rfl (by decide)<|st_gn 5 12 rfl rfl (by decide) rfl<|qt (pkF rfl)<|nl<|k38 _ _<|cndF rfl<|exit<|ke36 _ _ _<|ke32 _ _ _<|kb23 _ _<|kn16 _ _<|?_
   refine sr fun Q110 k111=>qt mv<|?_
   have H117:Hp S w0 w26 ([RdC bb t i bv]++[cQ 5 eY a2 m2 c2 xs]):=(hx27.pick [0,1] (by decide))
   refine cl T.cf118 (sign118 t _ bb i bv _ H117.startL hs (by omega) 34 (by decide)) rfl fun _ w118 ⟨a115,b116,er,hst113,hle114,K112⟩=>⟨_,er,?_⟩
   have H119:=H117.callL K112
   refine nl<|k111 _ _<|?_
   refine sr fun Q120 k121=>qt mv<|qt (x_toS Tryz.underlying120 Tryz.underlying5 Tryz.underlying9 rfl (H119.srQ 1 rfl))<|qt asg<|nl<|k121 _ _<|ret<|leave1 (P:=Tryz.prog) (fn:=Tryz.f266) (t:=2) (v:=.string (sN xs)) rfl rfl<|?_
   exact ⟨_,a115,b116,rfl,by first | exact TxI.fin hq (by assumption) hb h34 (by omega) hst113 | exact TxI.bad hq (by first | assumption | simp_all) hb h34 hst113,by omega,(H119.pick [0] (by decide))⟩
theorem term190 (t:ByteArray) (S:Nat→Prop) (bb a:Nat) (bd:Bool) (w0:World) (Hx:Hp S w0 w0 [RdC bb t a bd]) (hs:t.size≤68719476736) (ha:a≤t.size) :
  Calls Tryz.prog 190 #[.pointer (some ⟨bb,0,none⟩)] w0 fun e w'=>∃ x a' b',e= .returned (.agg (eT.enc x).toArray)∧Stp (termR ((bl t).drop a) a) bd a x a' b'∧a'≤t.size∧Hp S w0 w' [RdC bb t a' b']:=by
 have H0:Hp S w0 w0 [RdC bb t a bd]:=Hx
 refine enter Tryz.func190 rfl 43 Tryz.ntmps190 rfl<|?_
 refine sr fun Q1 k2=>?_
 refine st_e<|Eal H0 T.zv35 fun b3 w4 H5 x6=>nl<|k2 _ _<|?_
 refine sr fun Q7 k8=>qt mv<|?_
 have H10:Hp S w0 w4 ([RdC bb t a bd]++[cB b3 35 [.bool false,.string ByteArray.empty]]):=(H5.pick [1,0] (by decide))
 refine cl T.cf115 (peek115 t _ bb a bd _ H10.startL hs (by omega)) rfl fun _ w11 ⟨er,K9⟩=>⟨_,er,?_⟩
 have H12:=H10.callL K9
 refine qt asg<|nl<|k8 _ _<|seqK fun Q13 kn14 kr15 ke16=>blockK fun Q17 kn18 kr19 kx20 kb21=>?_
 refine sr fun Q22 k23=>qt mv<|qt (x_nilCheck rfl)<|qt (x_field (o:=0) T.fa130_2 rfl)<|qt (x_load1 T.na4 rfl (H12.ld 0 rfl 2 rfl))<|qt asg<|nl<|k23 _ _<|cnd (p:=bd=true) rfl (fun h24=>?_) (fun h24=>?_)
 ·refine sr fun Q25 k26=>qt (v:=.agg #[.bool false,.string ByteArray.empty]) (x_build (fun _=>by kernel_rfl))<|?_
  refine st_s<|Est (v:=.agg #[.bool false,.string ByteArray.empty]) H12 1 T.sz35 rfl rfl rfl rfl rfl rfl fun w27 H28=>nl<|k26 _ _<|ret<|kr19 _ _<|kr15 _ _<|leaveC (P:=Tryz.prog) (fn:=Tryz.f190) (t:=2) (T:=35) (b:=b3) (o:=0) (cs:=[.bool false,.string ByteArray.empty]) rfl T.ag35 rfl (H28.lds 1 rfl 0 [.bool false,.string ByteArray.empty] rfl) ?_
  exact ⟨(false,ByteArray.empty),a,bd,rfl,Stp.was (by assumption),by omega,(H28.pick [0] (by decide))⟩
 ·refine sr fun Q29 k30=>qt mv<|?_
  have H32:Hp S w0 w11 ([RdC bb t a bd]++[cB b3 35 [.bool false,.string ByteArray.empty]]):=(H12.pick [0,1] (by decide))
  refine cl T.cf63 (end63 t _ bb a bd _ H32.startL hs (by omega)) rfl fun _ w33 ⟨er,K31⟩=>⟨_,er,?_⟩
  have H34:=H32.callL K31
  refine qt asg<|nl<|k30 _ _<|cnd (p:=t.size≤a) rfl (fun h35=>?_) (fun h35=>?_)
  ·refine sr fun Q36 k37=>qt mv<|qt mv<|qt (x_nilCheck rfl)<|qt (x_field (o:=0) T.fa130_1 rfl)<|qt (x_load1 T.na3 rfl (H34.ld 0 rfl 1 rfl))<|?_
   have H39:Hp S w0 w33 ([RdC bb t a bd]++[cB b3 35 [.bool false,.string ByteArray.empty]]):=(H34.pick [0,1] (by decide))
   refine cl T.cf64 (stop64 t _ bb a bd _ H39.startL hs (by omega)) rfl fun _ w40 ⟨er,K38⟩=>⟨_,er,?_⟩
   have H41:=H39.callL K38
   refine nl<|k37 _ _<|?_
   refine sr fun Q42 k43=>qt (v:=.agg #[.bool false,.string ByteArray.empty]) (x_build (fun _=>by kernel_rfl))<|?_
   refine st_s<|Est (v:=.agg #[.bool false,.string ByteArray.empty]) H41 1 T.sz35 rfl rfl rfl rfl rfl rfl fun w44 H45=>nl<|k43 _ _<|ret<|kr19 _ _<|kr15 _ _<|leaveC (P:=Tryz.prog) (fn:=Tryz.f190) (t:=2) (T:=35) (b:=b3) (o:=0) (cs:=[.bool false,.string ByteArray.empty]) rfl T.ag35 rfl (H45.lds 1 rfl 0 [.bool false,.string ByteArray.empty] rfl) ?_
   exact ⟨(false,ByteArray.empty),a,true,rfl,Stp.stops (by assumption) (tm_end (by omega)),by omega,(H45.pick [0] (by decide))⟩
  ·refine sr fun Q46 k47=>qt mv<|?_
   refine cl T.cf263 (great263 _ _) rfl fun _ _ ⟨er,rfl⟩=>⟨_,er,?_⟩
   refine qt asg<|nl<|k47 _ _<|cnd (p:=Gr (pk t a)) rfl (fun h49=>?_) (fun h49=>?_)
   ·refine sr fun Q50 k51=>qt mv<|?_
    have H58:Hp S w0 w33 ([RdC bb t a bd]++[cB b3 35 [.bool false,.string ByteArray.empty]]):=(H34.pick [0,1] (by decide))
    refine cl T.cf188 (run188 t _ bb a bd _ H58.startL hs (by omega) (by assumption)) rfl fun _ w59 ⟨s55,a56,b57,er,hst53,hle54,K52⟩=>⟨_,er,?_⟩
    have H60:=H58.callL K52
    refine qt (v:=.agg #[.bool true,.string s55]) (x_build (fun _=>by kernel_rfl))<|?_
    refine st_s<|Est (v:=.agg #[.bool true,.string s55]) H60 1 T.sz35 rfl rfl rfl rfl rfl rfl fun w61 H62=>nl<|k51 _ _<|ret<|kr19 _ _<|kr15 _ _<|leaveC (P:=Tryz.prog) (fn:=Tryz.f190) (t:=2) (T:=35) (b:=b3) (o:=0) (cs:=[.bool true,.string s55]) rfl T.ag35 rfl (H62.lds 1 rfl 0 [.bool true,.string s55] rfl) ?_
    exact ⟨(true,s55),a56,b57,rfl,(hst53.th (g:=fun s j=>.ok (true,s) j) Stp.ok).eq (tm_gr (by assumption)),by omega,(H62.pick [0] (by decide))⟩
   ·refine sr fun Q63 k64=>qt mv<|?_
    refine cl T.cf264 (digit264 _ _) rfl fun _ _ ⟨er,rfl⟩=>⟨_,er,?_⟩
    refine qt asg<|nl<|k64 _ _<|cnd (p:=Dg (pk t a)) rfl (fun h66=>?_) (fun h66=>?_)
    ·refine sr fun Q67 k68=>qt mv<|?_
     have H75:Hp S w0 w33 ([RdC bb t a bd]++[cB b3 35 [.bool false,.string ByteArray.empty]]):=(H34.pick [0,1] (by decide))
     refine cl T.cf265 (digits265 t _ bb a bd _ H75.startL hs (by omega) (by assumption)) rfl fun _ w76 ⟨s72,a73,b74,er,hst70,hle71,K69⟩=>⟨_,er,?_⟩
     have H77:=H75.callL K69
     refine qt (v:=.agg #[.bool false,.string s72]) (x_build (fun _=>by kernel_rfl))<|?_
     refine st_s<|Est (v:=.agg #[.bool false,.string s72]) H77 1 T.sz35 rfl rfl rfl rfl rfl rfl fun w78 H79=>nl<|k68 _ _<|ret<|kr19 _ _<|kr15 _ _<|leaveC (P:=Tryz.prog) (fn:=Tryz.f190) (t:=2) (T:=35) (b:=b3) (o:=0) (cs:=[.bool false,.string s72]) rfl T.ag35 rfl (H79.lds 1 rfl 0 [.bool false,.string s72] rfl) ?_
     exact ⟨(false,s72),a73,b74,rfl,(hst70.th (g:=fun s j=>.ok (false,s) j) Stp.ok).eq (tm_dg (by assumption) (by assumption)),by omega,(H79.pick [0] (by decide))⟩
    ·refine sr fun Q80 k81=>qt mv<|qt (x_eqlN (b:=34) rfl rfl)<|qt asg<|nl<|k81 _ _<|cnd (p:=(pk t a)=34) rfl (fun h82=>?_) (fun h82=>?_)
     ·refine sr fun Q83 k84=>qt mv<|?_
      have H91:Hp S w0 w33 ([RdC bb t a bd]++[cB b3 35 [.bool false,.string ByteArray.empty]]):=(H34.pick [0,1] (by decide))
      refine cl T.cf266 (text266 t _ bb a bd _ H91.startL hs (by omega) (by assumption) (by assumption)) rfl fun _ w92 ⟨s88,a89,b90,er,hst86,hle87,K85⟩=>⟨_,er,?_⟩
      have H93:=H91.callL K85
      refine qt (v:=.agg #[.bool false,.string s88]) (x_build (fun _=>by kernel_rfl))<|?_
      refine st_s<|Est (v:=.agg #[.bool false,.string s88]) H93 1 T.sz35 rfl rfl rfl rfl rfl rfl fun w94 H95=>nl<|k84 _ _<|ret<|kr19 _ _<|kr15 _ _<|leaveC (P:=Tryz.prog) (fn:=Tryz.f190) (t:=2) (T:=35) (b:=b3) (o:=0) (cs:=[.bool false,.string s88]) rfl T.ag35 rfl (H95.lds 1 rfl 0 [.bool false,.string s88] rfl) ?_
      exact ⟨(false,s88),a89,b90,rfl,(hst86.th (g:=fun s j=>.ok (false,s) j) Stp.ok).eq (tm_tx (by assumption) (by assumption) (by omega)),by omega,(H95.pick [0] (by decide))⟩
     ·refine skip<|kn18 _ _<|kn14 _ _<|?_
      refine sr fun Q96 k97=>qt mv<|?_
      have H104:Hp S w0 w33 ([RdC bb t a bd]++[cB b3 35 [.bool false,.string ByteArray.empty]]):=(H34.pick [0,1] (by decide))
      refine cl T.cf116 (name116 t _ bb a bd _ H104.startL hs (by omega)) rfl fun _ w105 ⟨s101,a102,b103,er,hst99,hle100,K98⟩=>⟨_,er,?_⟩
      have H106:=H104.callL K98
      refine qt (v:=.agg #[.bool false,.string s101]) (x_build (fun _=>by kernel_rfl))<|?_
      refine st_s<|Est (v:=.agg #[.bool false,.string s101]) H106 1 T.sz35 rfl rfl rfl rfl rfl rfl fun w107 H108=>nl<|k97 _ _<|ret<|leaveC (P:=Tryz.prog) (fn:=Tryz.f190) (t:=2) (T:=35) (b:=b3) (o:=0) (cs:=[.bool false,.string s101]) rfl T.ag35 rfl (H108.lds 1 rfl 0 [.bool false,.string s101] rfl) ?_
      exact ⟨(false,s101),a102,b103,rfl,(hst99.th (g:=fun s j=>.ok (false,s) j) Stp.ok).eq (tm_nm (by assumption) (by assumption) (by omega)),by omega,(H108.pick [0] (by decide))⟩
end Go.Proofs.YtljfgmedbjlkaaaGreat
namespace Go.Proofs.YtljfgmedbjlkaaaGreat
open Go.RowKit Go.Eng Go.QP
theorem T.cf60:CF Tryz.prog 60:=fun _ _=>by kernel_rfl
theorem T.cf190:CF Tryz.prog 190:=fun _ _=>by kernel_rfl
theorem T.zv32:ZV Tryz.prog 32 (.agg #[.string ByteArray.empty,.slice none 0 0]):=fun _=>by kernel_rfl
theorem T.sz32:SZ Tryz.prog 32 2:=fun _=>by kernel_rfl
theorem T.cf117:CF Tryz.prog 117:=fun _ _=>by kernel_rfl
theorem T.fa32_1:FA Tryz.prog 32 1 1:=fun _ _=>by kernel_rfl
theorem T.sz30:SZ Tryz.prog 30 1:=fun _=>by kernel_rfl
theorem T.ag32:AG Tryz.prog 32 2:=fun _=>⟨by kernel_rfl,by kernel_rfl⟩
theorem T.zv37:ZV Tryz.prog 37 (.agg #[.int .i64 ((0:Nat):Int),.string ByteArray.empty,.slice none 0 0,.bool false,.string ByteArray.empty,.bool false,.string ByteArray.empty]):=fun _=>by kernel_rfl
theorem T.sz37:SZ Tryz.prog 37 7:=fun _=>by kernel_rfl
theorem T.ag37:AG Tryz.prog 37 7:=fun _=>⟨by kernel_rfl,by kernel_rfl⟩
theorem args117 (t:ByteArray) (S:Nat→Prop) (bb a:Nat) (bd:Bool) (w0:World) (Hx:Hp S w0 w0 [RdC bb t a bd]) (hs:t.size≤68719476736) (ha:a≤t.size) :
  Calls Tryz.prog 117 #[.pointer (some ⟨bb,0,none⟩)] w0 fun e w'=>∃ (xs:List Tm) (ad:Option Addr) (c a':Nat) (b':Bool),e= .returned (.slice ad xs.length c)∧Stp (argsR ((bl t).drop a) a) bd a xs a' b'∧a'≤t.size∧Hp S w0 w' [RdC bb t a' b',cQ 35 eT ad xs.length c xs]:=by
 have H0:Hp S w0 w0 [RdC bb t a bd]:=Hx
 refine enter Tryz.func117 rfl 64 Tryz.ntmps117 rfl<|?_
 refine sr fun Q1 k2=>qt asg<|nl<|k2 _ _<|?_
 refine sr fun Q3 k4=>qt mv<|?_
 have H10:Hp S w0 w0 ([RdC bb t a bd]++[]):=(H0.pick [0] (by decide))
 refine cl T.cf60 (skip60 t _ bb a bd _ H10.startL hs (by omega)) rfl fun _ w11 ⟨a8,b9,er,hst6,hle7,K5⟩=>⟨_,er,?_⟩
 have H12:=H10.callL K5
 refine nl<|k4 _ _<|seqK fun Q13 kn14 kr15 ke16=>?_
 refine sr fun Q17 k18=>qt mv<|qt (x_nilCheck rfl)<|qt (x_field (o:=0) T.fa130_2 rfl)<|qt (x_load1 T.na4 rfl (H12.ld 0 rfl 2 rfl))<|st_if (p:=b9=true) (x_move rfl) (fun h19=>?_) (fun h19=>?_)
 ·refine st_gn 4 10 rfl rfl (by decide) rfl<|st_gn 4 10 rfl rfl (by decide) rfl<|st_gn 4 10 rfl rfl (by decide) rfl<|qt (pkT rfl)<|nl<|k18 _ _<|cndT rfl<|?_
  refine sr fun Q20 k21=>qt asg<|nl<|k21 _ _<|ret<|kr15 _ _<|leave1 (P:=Tryz.prog) (fn:=Tryz.f117) (t:=2) (v:=.slice none 0 0) rfl rfl<|?_
  exact ⟨[],none,0,a8,b9,rfl,args_no hst6 (by first | exact .inl (by assumption) | exact .inr (by omega)),by omega,(H12.nilQ 35 eT).pick [1,0] (by decide)⟩
 ·refine st_gq 4 10 rfl rfl (by decide)<|qt mv<|st_gq 4 10 rfl rfl (by decide)<|?_
  have H23:Hp S w0 w11 ([RdC bb t a8 b9]++[]):=(H12.pick [0] (by decide))
  refine cl T.cf115 (peek115 t _ bb a8 b9 _ H23.startL hs (by omega)) rfl fun _ w24 ⟨er,K22⟩=>⟨_,er,?_⟩
  have H25:=H23.callL K22
  refine st_gq 4 10 rfl rfl (by decide)<|qt (x_neqN (b:=40) rfl rfl)<|qt (pkF rfl)<|nl<|k18 _ _<|cnd (p:=(pk t a8)≠40) rfl (fun h26=>?_) (fun h26=>?_)
  ·refine sr fun Q27 k28=>qt asg<|nl<|k28 _ _<|ret<|kr15 _ _<|leave1 (P:=Tryz.prog) (fn:=Tryz.f117) (t:=2) (v:=.slice none 0 0) rfl rfl<|?_
   exact ⟨[],none,0,a8,b9,rfl,args_no hst6 (by first | exact .inl (by assumption) | exact .inr (by omega)),by omega,(H25.nilQ 35 eT).pick [1,0] (by decide)⟩
  ·refine skip<|kn14 _ _<|?_
   refine sr fun Q29 k30=>qt mv<|qt (x_nilCheck rfl)<|qt (x_field (o:=0) T.fa130_1 rfl)<|qt (x_load1 T.na3 rfl (H25.ld 0 rfl 1 rfl))<|qt (addN (b:=1) rfl rfl)<|qt (x_nilCheck rfl)<|qt (x_field (o:=0) T.fa130_1 rfl)<|?_
   refine st_s<|Est (v:=.int .i64 (((a8+1):Nat):Int)) H25 0 T.sz3 rfl rfl rfl rfl rfl rfl fun w31 H32=>nl<|k30 _ _<|?_
   refine sr fun Q33 k34=>qt asg<|nl<|k34 _ _<|seqK fun Q35 kn36 kr37 ke38=>blockK fun Q39 kn40 kr41 kx42 kb43=>?_
   refine loopK (α:=Nat × Bool × (Option Addr) × Nat × Nat × (List Tm)) (fun x=>[(0,.pointer (some ⟨bb,0,none⟩)),(3,.slice x.2.2.1 x.2.2.2.1 x.2.2.2.2.1)]) (fun x w44=>Hp S w0 w44 [cB bb 130 [.string t,.int .i64 ((x.1:Nat):Int),.bool (decide (x.2.1=true))],cQ 35 eT x.2.2.1 x.2.2.2.1 x.2.2.2.2.1 x.2.2.2.2.2]∧x.2.2.2.1=x.2.2.2.2.2.length∧ArI t (argsL (((bl t).drop a).length+1) [] ((bl t).drop (a8+1)) (a8+1)) x.1 x.2.1 x.2.2.2.2.2) (fun x=>t.size-x.1) ((a8+1),b9,none,0,0,[]) ⟨rfl,rfl,trivial⟩ ?_ ?_
   ·refine ⟨((H32.nilQ 35 eT).pick [1,0] (by decide)),?_⟩
    try dsimp only
    exact ⟨rfl,ArI.start (by assumption) (by omega) (skR_ge hst6)⟩
   ·rintro τ45 ⟨i,bv,a2,m2,c2,xs⟩ w46 ⟨hx47,⟨hm,hq⟩⟩
    try dsimp only at hm hq
    have hz48:=hx47.le
    intro Q49 kn50 kr51 ke52
    dsimp only at hx47 ⊢
    have hi:=hq.1
    have hxl:=hq.2.2.1
    refine seqK fun Q53 kn54 kr55 ke56=>?_
    refine sr fun Q57 k58=>qt mv<|qt (x_nilCheck rfl)<|qt (x_field (o:=0) T.fa130_2 rfl)<|qt (x_load1 T.na4 rfl (hx47.ld 0 rfl 2 rfl))<|qt (x_notP rfl)<|nl<|k58 _ _<|cnd (p:=¬ (bv=true)) rfl (fun h59=>?_) (fun h59=>?_)
    ·refine skip<|kn54 _ _<|blockK fun Q60 kn61 kr62 kx63 kb64=>?_
     refine sr fun Q65 k66=>qt mv<|?_
     have H72:Hp S w0 w46 ([RdC bb t i bv]++[cQ 35 eT a2 m2 c2 xs]):=(hx47.pick [0,1] (by decide))
     refine cl T.cf60 (skip60 t _ bb i bv _ H72.startL hs (by omega)) rfl fun _ w73 ⟨a70,b71,er,hst68,hle69,K67⟩=>⟨_,er,?_⟩
     have H74:=H72.callL K67
     refine nl<|k66 _ _<|?_
     refine sr fun Q75 k76=>qt mv<|qt mv<|?_
     have H83:Hp S w0 w73 ([RdC bb t a70 b71]++[cQ 35 eT a2 m2 c2 xs]):=(H74.pick [0,1] (by decide))
     refine cl T.cf190 (term190 t _ bb a70 b71 _ H83.startL hs (by omega)) rfl fun _ w84 ⟨x80,a81,b82,er,hst78,hle79,K77⟩=>⟨_,er,?_⟩
     have H85:=H83.callL K77
     refine st_e<|Ebs (cs:=[.bool (decide (x80.1=true)),.string x80.2]) (e:=35) H85 (fun _=>by kernel_rfl) fun b86 w87 H88 x89=>?_
     refine st_e<|EapQ H88 2 T.sl30 rfl rfl rfl (H88.lst (E:=eT) 0 rfl x80 rfl) (by omega) rfl rfl fun a90 c91 w92 H93=>qt asg<|nl<|k76 _ _<|?_
     refine sr fun Q94 k95=>qt mv<|?_
     have H101:Hp S w0 w92 ([RdC bb t a81 b82]++[cB b86 35 [.bool (decide (x80.1=true)),.string x80.2],cQ 35 eT a90 (m2+1) c91 (xs++[x80])]):=(H93.pick [1,0,2] (by decide))
     refine cl T.cf60 (skip60 t _ bb a81 b82 _ H101.startL hs (by omega)) rfl fun _ w102 ⟨a99,b100,er,hst97,hle98,K96⟩=>⟨_,er,?_⟩
     have H103:=H101.callL K96
     refine nl<|k95 _ _<|seqK fun Q104 kn105 kr106 ke107=>?_
     refine sr fun Q108 k109=>qt mv<|qt (x_nilCheck rfl)<|qt (x_field (o:=0) T.fa130_2 rfl)<|qt (x_load1 T.na4 rfl (H103.ld 0 rfl 2 rfl))<|st_if (p:=b100=true) (x_move rfl) (fun h110=>?_) (fun h110=>?_)
     ·refine st_gn 4 40 rfl rfl (by decide) rfl<|st_gn 4 40 rfl rfl (by decide) rfl<|st_gn 4 40 rfl rfl (by decide) rfl<|qt (pkT rfl)<|nl<|k109 _ _<|cndT rfl<|exit<|ke107 _ _ _<|kx63 _ _ _ rfl<|ke52 _ _ _<|kb43 _ _<|kn36 _ _<|?_
      refine sr fun Q111 k112=>qt mv<|?_
      have H118:Hp S w0 w102 ([RdC bb t a99 b100]++[cB b86 35 [.bool (decide (x80.1=true)),.string x80.2],cQ 35 eT a90 (m2+1) c91 (xs++[x80])]):=(H103.pick [0,1,2] (by decide))
      refine cl T.cf118 (sign118 t _ bb a99 b100 _ H118.startL hs (by omega) 41 (by decide)) rfl fun _ w119 ⟨a116,b117,er,hst114,hle115,K113⟩=>⟨_,er,?_⟩
      have H120:=H118.callL K113
      refine nl<|k112 _ _<|?_
      refine sr fun Q121 k122=>qt mv<|qt asg<|nl<|k122 _ _<|ret<|leave1 (P:=Tryz.prog) (fn:=Tryz.f117) (t:=2) (v:=.slice a90 (m2+1) c91) rfl rfl<|?_
      have hA:=ArI.exit hq hst68 hst78 hst97 (by first | exact .inl (by assumption) | exact .inr (by omega)) hst114
      have hm3:(m2+1)=((xs++[x80])).length:=by rw [List.length_append,hm];rfl
      exact ⟨(xs++[x80]),a90,c91,a116,b117,by rw [← hm3],args_fin hst6 (by assumption) (by omega) (Stp.re (by assumption) hq.2.1 hA),by omega,by rw [← hm3];exact (H120.pick [0,2] (by decide))⟩
     ·refine st_gq 4 40 rfl rfl (by decide)<|qt mv<|st_gq 4 40 rfl rfl (by decide)<|?_
      have H124:Hp S w0 w102 ([RdC bb t a99 b100]++[cB b86 35 [.bool (decide (x80.1=true)),.string x80.2],cQ 35 eT a90 (m2+1) c91 (xs++[x80])]):=(H103.pick [0,1,2] (by decide))
      refine cl T.cf115 (peek115 t _ bb a99 b100 _ H124.startL hs (by omega)) rfl fun _ w125 ⟨er,K123⟩=>⟨_,er,?_⟩
      have H126:=H124.callL K123
      refine st_gq 4 40 rfl rfl (by decide)<|qt (x_neqN (b:=44) rfl rfl)<|qt (pkF rfl)<|nl<|k109 _ _<|cnd (p:=(pk t a99)≠44) rfl (fun h127=>?_) (fun h127=>?_)
      ·refine exit<|ke107 _ _ _<|kx63 _ _ _ rfl<|ke52 _ _ _<|kb43 _ _<|kn36 _ _<|?_
       refine sr fun Q128 k129=>qt mv<|?_
       have H135:Hp S w0 w125 ([RdC bb t a99 b100]++[cB b86 35 [.bool (decide (x80.1=true)),.string x80.2],cQ 35 eT a90 (m2+1) c91 (xs++[x80])]):=(H126.pick [0,1,2] (by decide))
       refine cl T.cf118 (sign118 t _ bb a99 b100 _ H135.startL hs (by omega) 41 (by decide)) rfl fun _ w136 ⟨a133,b134,er,hst131,hle132,K130⟩=>⟨_,er,?_⟩
       have H137:=H135.callL K130
       refine nl<|k129 _ _<|?_
       refine sr fun Q138 k139=>qt mv<|qt asg<|nl<|k139 _ _<|ret<|leave1 (P:=Tryz.prog) (fn:=Tryz.f117) (t:=2) (v:=.slice a90 (m2+1) c91) rfl rfl<|?_
       have hA:=ArI.exit hq hst68 hst78 hst97 (by first | exact .inl (by assumption) | exact .inr (by omega)) hst131
       have hm3:(m2+1)=((xs++[x80])).length:=by rw [List.length_append,hm];rfl
       exact ⟨(xs++[x80]),a90,c91,a133,b134,by rw [← hm3],args_fin hst6 (by assumption) (by omega) (Stp.re (by assumption) hq.2.1 hA),by omega,by rw [← hm3];exact (H137.pick [0,2] (by decide))⟩
      ·refine skip<|kn105 _ _<|seqK fun Q140 kn141 kr142 ke143=>?_
       refine sr fun Q144 k145=>qt mv<|qt (x_lenSl rfl Tryz.underlying30 rfl)<|qt (x_eqlN (b:=16) rfl rfl)<|nl<|k145 _ _<|cnd (p:=(m2+1)=16) rfl (fun h146=>?_) (fun h146=>?_)
       ·refine sr fun Q147 k148=>qt mv<|qt mv<|qt (x_nilCheck rfl)<|qt (x_field (o:=0) T.fa130_1 rfl)<|qt (x_load1 T.na3 rfl (H126.ld 0 rfl 1 rfl))<|?_
        have H150:Hp S w0 w125 ([RdC bb t a99 b100]++[cB b86 35 [.bool (decide (x80.1=true)),.string x80.2],cQ 35 eT a90 (m2+1) c91 (xs++[x80])]):=(H126.pick [0,1,2] (by decide))
        refine cl T.cf64 (stop64 t _ bb a99 b100 _ H150.startL hs (by omega)) rfl fun _ w151 ⟨er,K149⟩=>⟨_,er,?_⟩
        have H152:=H150.callL K149
        refine nl<|k148 _ _<|exit<|ke143 _ _ _<|kx63 _ _ _ rfl<|ke52 _ _ _<|kb43 _ _<|kn36 _ _<|?_
        refine sr fun Q153 k154=>qt mv<|?_
        have H160:Hp S w0 w151 ([RdC bb t a99 true]++[cB b86 35 [.bool (decide (x80.1=true)),.string x80.2],cQ 35 eT a90 (m2+1) c91 (xs++[x80])]):=(H152.pick [0,1,2] (by decide))
        refine cl T.cf118 (sign118 t _ bb a99 true _ H160.startL hs (by omega) 41 (by decide)) rfl fun _ w161 ⟨a158,b159,er,hst156,hle157,K155⟩=>⟨_,er,?_⟩
        have H162:=H160.callL K155
        refine nl<|k154 _ _<|?_
        refine sr fun Q163 k164=>qt mv<|qt asg<|nl<|k164 _ _<|ret<|leave1 (P:=Tryz.prog) (fn:=Tryz.f117) (t:=2) (v:=.slice a90 (m2+1) c91) rfl rfl<|?_
        have hA:=ArI.full hq hst68 hst78 hst97 (by assumption) (by omega) (by omega) hst156
        have hm3:(m2+1)=((xs++[x80])).length:=by rw [List.length_append,hm];rfl
        exact ⟨(xs++[x80]),a90,c91,a158,b159,by rw [← hm3],args_fin hst6 (by assumption) (by omega) (Stp.re (by assumption) hq.2.1 hA),by omega,by rw [← hm3];exact (H162.pick [0,2] (by decide))⟩
       ·refine skip<|kn141 _ _<|region<|qt mv<|qt (x_nilCheck rfl)<|qt (x_field (o:=0) T.fa130_1 rfl)<|qt (x_load1 T.na3 rfl (H126.ld 0 rfl 1 rfl))<|qt (addN (b:=1) rfl rfl)<|qt (x_nilCheck rfl)<|qt (x_field (o:=0) T.fa130_1 rfl)<|?_
        refine st_s<|Est (v:=.int .i64 (((a99+1):Nat):Int)) H126 0 T.sz3 rfl rfl rfl rfl rfl rfl fun w165 H166=>nl<|kn61 _ _<|?_
        refine kn50 _ ((a99+1),b100,a90,(m2+1),c91,(xs++[x80])) _ ⟨rfl,rfl,trivial⟩ ⟨(H166.pick [0,2] (by decide)),?_⟩ ?_
        ·try dsimp only
         exact ⟨by rw [List.length_append,hm];rfl,(ArI.next hq hst68 hst78 hst97 (by assumption) (by omega) (by omega)).1⟩
        ·have h9:=(ArI.next hq hst68 hst78 hst97 (by assumption) (by omega) (by omega)).2
         try dsimp only
         omega
    ·refine exit<|ke56 _ _ _<|ke52 _ _ _<|kb43 _ _<|kn36 _ _<|?_
     refine sr fun Q167 k168=>qt mv<|?_
     have H174:Hp S w0 w46 ([RdC bb t i bv]++[cQ 35 eT a2 m2 c2 xs]):=(hx47.pick [0,1] (by decide))
     refine cl T.cf118 (sign118 t _ bb i bv _ H174.startL hs (by omega) 41 (by decide)) rfl fun _ w175 ⟨a172,b173,er,hst170,hle171,K169⟩=>⟨_,er,?_⟩
     have H176:=H174.callL K169
     refine nl<|k168 _ _<|?_
     refine sr fun Q177 k178=>qt mv<|qt asg<|nl<|k178 _ _<|ret<|leave1 (P:=Tryz.prog) (fn:=Tryz.f117) (t:=2) (v:=.slice a2 m2 c2) rfl rfl<|?_
     exact absurd (by first | assumption | simp_all) hq.2.1
theorem atom61 (t:ByteArray) (S:Nat→Prop) (bb a:Nat) (bd:Bool) (w0:World) (Hx:Hp S w0 w0 [RdC bb t a bd]) (hs:t.size≤68719476736) (ha:a≤t.size) :
  Calls Tryz.prog 61 #[.pointer (some ⟨bb,0,none⟩)] w0 fun e w'=>∃ (s:ByteArray) (xs:List Tm) (ad:Option Addr) (c a':Nat) (b':Bool),e= .returned (.agg #[.string s,.slice ad xs.length c])∧Stp (atomA t a) bd a (s,xs) a' b'∧a'≤t.size∧Hp S w0 w' [RdC bb t a' b',cQ 35 eT ad xs.length c xs]:=by
 have H0:Hp S w0 w0 [RdC bb t a bd]:=Hx
 refine enter Tryz.func61 rfl 11 Tryz.ntmps61 rfl<|?_
 refine sr fun Q1 k2=>?_
 refine st_e<|Eal H0 T.zv32 fun b3 w4 H5 x6=>nl<|k2 _ _<|?_
 refine sr fun Q7 k8=>qt mv<|?_
 have H15:Hp S w0 w4 ([RdC bb t a bd]++[cB b3 32 [.string ByteArray.empty,.slice none 0 0]]):=(H5.pick [1,0] (by decide))
 refine cl T.cf116 (name116 t _ bb a bd _ H15.startL hs (by omega)) rfl fun _ w16 ⟨s12,a13,b14,er,hst10,hle11,K9⟩=>⟨_,er,?_⟩
 have H17:=H15.callL K9
 refine qt (v:=.agg #[.string s12,.slice none 0 0]) (x_build (fun _=>by kernel_rfl))<|?_
 refine st_e<|Eal H17 T.zv32 fun b18 w19 H20 x21=>?_
 refine st_s<|Est (v:=.agg #[.string s12,.slice none 0 0]) H20 0 T.sz32 rfl rfl rfl rfl rfl rfl fun w22 H23=>nl<|k8 _ _<|?_
 refine sr fun Q24 k25=>qt mv<|?_
 have H34:Hp S w0 w22 ([RdC bb t a13 b14]++[cB b18 32 [.string s12,.slice none 0 0],cB b3 32 [.string ByteArray.empty,.slice none 0 0]]):=(H23.pick [1,0,2] (by decide))
 refine cl T.cf117 (args117 t _ bb a13 b14 _ H34.startL hs (by omega)) rfl fun _ w35 ⟨xs29,ad30,c31,a32,b33,er,hst27,hle28,K26⟩=>⟨_,er,?_⟩
 have H36:=H34.callL K26
 refine qt (x_field (o:=0) T.fa32_1 rfl)<|?_
 refine st_s<|Est (v:=.slice ad30 xs29.length c31) H36 2 T.sz30 rfl rfl rfl rfl rfl rfl fun w37 H38=>nl<|k25 _ _<|?_
 refine sr fun Q39 k40=>qt (x_loadA [.string s12,.slice ad30 xs29.length c31] T.ag32 rfl (H38.lds 2 rfl 0 [.string s12,.slice ad30 xs29.length c31] rfl))<|?_
 refine st_s<|Est (v:=.agg #[.string s12,.slice ad30 xs29.length c31]) H38 3 T.sz32 rfl rfl rfl rfl rfl rfl fun w41 H42=>nl<|k40 _ _<|ret<|leaveC (P:=Tryz.prog) (fn:=Tryz.f61) (t:=2) (T:=32) (b:=b3) (o:=0) (cs:=[.string s12,.slice ad30 xs29.length c31]) rfl T.ag32 rfl (H42.lds 3 rfl 0 [.string s12,.slice ad30 xs29.length c31] rfl) ?_
 exact ⟨s12,xs29,ad30,c31,a32,b33,rfl,atom_stp hst10 hst27,by omega,(H42.pick [0,1] (by decide))⟩
theorem unlike191 (t:ByteArray) (S:Nat→Prop) (bb a:Nat) (bd:Bool) (w0:World) (Hx:Hp S w0 w0 [RdC bb t a bd]) (hs:t.size≤68719476736) (ha:a≤t.size) (x:Tm) :
  Calls Tryz.prog 191 #[.pointer (some ⟨bb,0,none⟩),.agg (eT.enc x).toArray] w0 fun e w'=>∃ (z:Tm) (a':Nat) (b':Bool),e= .returned (.agg (eL.enc (⟨3,ByteArray.empty,[],x,z⟩,(none,0))).toArray)∧Stp (unlikeR x ((bl t).drop a) a) bd a ⟨3,ByteArray.empty,[],x,z⟩ a' b'∧a'≤t.size∧Hp S w0 w' [RdC bb t a' b']:=by
 have H0:Hp S w0 w0 [RdC bb t a bd]:=Hx
 refine enter Tryz.func191 rfl 17 Tryz.ntmps191 rfl<|?_
 refine sr fun Q1 k2=>?_
 refine st_e<|Ebx (v:=.agg #[.bool (decide (x.1=true)),.string x.2]) H0 rfl fun b3 w4 H5 x6=>?_
 refine st_e<|Eal H5 T.zv37 fun b7 w8 H9 x10=>nl<|k2 _ _<|?_
 refine sr fun Q11 k12=>qt mv<|?_
 have H18:Hp S w0 w8 ([RdC bb t a bd]++[cB b7 37 [.int .i64 ((0:Nat):Int),.string ByteArray.empty,.slice none 0 0,.bool false,.string ByteArray.empty,.bool false,.string ByteArray.empty],cB b3 35 [.bool (decide (x.1=true)),.string x.2]]):=(H9.pick [2,0,1] (by decide))
 refine cl T.cf60 (skip60 t _ bb a bd _ H18.startL hs (by omega)) rfl fun _ w19 ⟨a16,b17,er,hst14,hle15,K13⟩=>⟨_,er,?_⟩
 have H20:=H18.callL K13
 refine nl<|k12 _ _<|?_
 refine sr fun Q21 k22=>qt mv<|?_
 have H28:Hp S w0 w19 ([RdC bb t a16 b17]++[cB b7 37 [.int .i64 ((0:Nat):Int),.string ByteArray.empty,.slice none 0 0,.bool false,.string ByteArray.empty,.bool false,.string ByteArray.empty],cB b3 35 [.bool (decide (x.1=true)),.string x.2]]):=(H20.pick [0,1,2] (by decide))
 refine cl T.cf118 (sign118 t _ bb a16 b17 _ H28.startL hs (by omega) 33 (by decide)) rfl fun _ w29 ⟨a26,b27,er,hst24,hle25,K23⟩=>⟨_,er,?_⟩
 have H30:=H28.callL K23
 refine nl<|k22 _ _<|?_
 refine sr fun Q31 k32=>qt mv<|?_
 have H38:Hp S w0 w29 ([RdC bb t a26 b27]++[cB b7 37 [.int .i64 ((0:Nat):Int),.string ByteArray.empty,.slice none 0 0,.bool false,.string ByteArray.empty,.bool false,.string ByteArray.empty],cB b3 35 [.bool (decide (x.1=true)),.string x.2]]):=(H30.pick [0,1,2] (by decide))
 refine cl T.cf118 (sign118 t _ bb a26 b27 _ H38.startL hs (by omega) 61 (by decide)) rfl fun _ w39 ⟨a36,b37,er,hst34,hle35,K33⟩=>⟨_,er,?_⟩
 have H40:=H38.callL K33
 refine nl<|k32 _ _<|?_
 refine sr fun Q41 k42=>qt mv<|?_
 have H48:Hp S w0 w39 ([RdC bb t a36 b37]++[cB b7 37 [.int .i64 ((0:Nat):Int),.string ByteArray.empty,.slice none 0 0,.bool false,.string ByteArray.empty,.bool false,.string ByteArray.empty],cB b3 35 [.bool (decide (x.1=true)),.string x.2]]):=(H40.pick [0,1,2] (by decide))
 refine cl T.cf60 (skip60 t _ bb a36 b37 _ H48.startL hs (by omega)) rfl fun _ w49 ⟨a46,b47,er,hst44,hle45,K43⟩=>⟨_,er,?_⟩
 have H50:=H48.callL K43
 refine nl<|k42 _ _<|seqK fun Q51 kn52 kr53 ke54=>regionD1 [] [1,3] (.one 1 (.two 0 (.one 2 (.one 3 (.one 4 .done))) 2 (.one 0 (.one 3 (.one 4 .done))))) (by kernel_rfl) (by kernel_rfl) fun w55 x56 s57=>?_
 have H58:=H50.ext x56
 have S59:Ext w55 w55:=Below.refl _ _
 refine d_q rfl rfl (fun _=>mv)<|d_two ?_ ?_
 ·refine id<|d_e' rfl rfl<|eff_ex (x_loadA [.bool (decide (x.1=true)),.string x.2] T.ag35 rfl (H58.lds 2 rfl 0 [.bool (decide (x.1=true)),.string x.2] rfl))<|⟨fun _=>S59,?_⟩
  have H66:Hp S w0 w55 ([RdC bb t a46 b47]++[cB b7 37 [.int .i64 ((0:Nat):Int),.string ByteArray.empty,.slice none 0 0,.bool false,.string ByteArray.empty,.bool false,.string ByteArray.empty],cB b3 35 [.bool (decide (x.1=true)),.string x.2]]):=(H58.pick [0,1,2] (by decide))
  refine d_e (by decide)<|d_c' rfl rfl (t_call _ T.cf190 rfl rfl) (term190 t _ bb a46 b47 _ H66.startL hs (by omega)) fun _ w67 ⟨x63,a64,b65,er,hst61,hle62,K60⟩=>⟨_,er,?_⟩
  have H68:=H66.callL K60
  refine ⟨need_no (by kernel_rfl),?_⟩
  refine d_q (v:=.agg #[.int .i64 ((3:Nat):Int),.string ByteArray.empty,.slice none 0 0,.bool (decide (x.1=true)),.string x.2,.bool (decide (x63.1=true)),.string x63.2]) rfl rfl (fun _=>x_build (fun _=>by kernel_rfl))<|d_e (by decide)<|d_s' rfl rfl<|Est (v:=.agg #[.int .i64 ((3:Nat):Int),.string ByteArray.empty,.slice none 0 0,.bool (decide (x.1=true)),.string x.2,.bool (decide (x63.1=true)),.string x63.2]) H68 1 T.sz37 rfl rfl rfl rfl rfl rfl fun w69 H70=>⟨need_no (by kernel_rfl),?_⟩
  refine d_done<|kn52 _ _<|ret<|leaveC (P:=Tryz.prog) (fn:=Tryz.f191) (t:=4) (T:=37) (b:=b7) (o:=0) (cs:=[.int .i64 ((3:Nat):Int),.string ByteArray.empty,.slice none 0 0,.bool (decide (x.1=true)),.string x.2,.bool (decide (x63.1=true)),.string x63.2]) rfl T.ag37 rfl (H70.lds 1 rfl 0 [.int .i64 ((3:Nat):Int),.string ByteArray.empty,.slice none 0 0,.bool (decide (x.1=true)),.string x.2,.bool (decide (x63.1=true)),.string x63.2] rfl) ?_
  exact ⟨x63,a64,b65,rfl,unl_stp hst14 hst24 hst34 hst44 hst61,by omega,(H70.pick [0] (by decide))⟩
 ·have H77:Hp S w0 w55 ([RdC bb t a46 b47]++[cB b7 37 [.int .i64 ((0:Nat):Int),.string ByteArray.empty,.slice none 0 0,.bool false,.string ByteArray.empty,.bool false,.string ByteArray.empty],cB b3 35 [.bool (decide (x.1=true)),.string x.2]]):=(H58.pick [0,1,2] (by decide))
  refine id<|d_c' rfl rfl (t_call _ T.cf190 rfl rfl) (term190 t _ bb a46 b47 _ H77.startL hs (by omega)) fun _ w78 ⟨x74,a75,b76,er,hst72,hle73,K71⟩=>⟨_,er,?_⟩
  have H79:=H77.callL K71
  refine ⟨need_no (by kernel_rfl),?_⟩
  refine d_e (by decide)<|d_e' rfl rfl<|eff_ex (x_loadA [.bool (decide (x.1=true)),.string x.2] T.ag35 rfl (H79.lds 2 rfl 0 [.bool (decide (x.1=true)),.string x.2] rfl))<|⟨need_no (by kernel_rfl),?_⟩
  refine d_q (v:=.agg #[.int .i64 ((3:Nat):Int),.string ByteArray.empty,.slice none 0 0,.bool (decide (x.1=true)),.string x.2,.bool (decide (x74.1=true)),.string x74.2]) rfl rfl (fun _=>x_build (fun _=>by kernel_rfl))<|d_e (by decide)<|d_s' rfl rfl<|Est (v:=.agg #[.int .i64 ((3:Nat):Int),.string ByteArray.empty,.slice none 0 0,.bool (decide (x.1=true)),.string x.2,.bool (decide (x74.1=true)),.string x74.2]) H79 1 T.sz37 rfl rfl rfl rfl rfl rfl fun w80 H81=>⟨need_no (by kernel_rfl),?_⟩
  refine d_done<|kn52 _ _<|ret<|leaveC (P:=Tryz.prog) (fn:=Tryz.f191) (t:=4) (T:=37) (b:=b7) (o:=0) (cs:=[.int .i64 ((3:Nat):Int),.string ByteArray.empty,.slice none 0 0,.bool (decide (x.1=true)),.string x.2,.bool (decide (x74.1=true)),.string x74.2]) rfl T.ag37 rfl (H81.lds 1 rfl 0 [.int .i64 ((3:Nat):Int),.string ByteArray.empty,.slice none 0 0,.bool (decide (x.1=true)),.string x.2,.bool (decide (x74.1=true)),.string x74.2] rfl) ?_
  exact ⟨x74,a75,b76,rfl,unl_stp hst14 hst24 hst34 hst44 hst72,by omega,(H81.pick [0] (by decide))⟩
end Go.Proofs.YtljfgmedbjlkaaaGreat
