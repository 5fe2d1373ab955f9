/- A part of the engine: steps over the model. Over any program. -/
import Derived.Test.YtljfgmedbjlkaaaGreatQA
import Derived.Test.YtljfgmedbjlkaaaGreatV3
import Derived.Test.YtljfgmedbjlkaaaGreatQV
import Derived.Test.YtljfgmedbjlkaaaGreatProg
import Derived.Test.YtljfgmedbjlkaaaGreatQE
namespace Go.Proofs.YtljfgmedbjlkaaaGreat
open Go.RowKit Go.Eng Go.QP
theorem T.zv207:ZV Tryz.prog 207 (.agg #[.string ByteArray.empty,.string ByteArray.empty,.string ByteArray.empty,.string ByteArray.empty,.string ByteArray.empty,.string ByteArray.empty,.string ByteArray.empty]):=fun _=>by kernel_rfl
theorem T.sz207:SZ Tryz.prog 207 7:=fun _=>by kernel_rfl
theorem T.ag207:AG Tryz.prog 207 7:=fun _=>⟨by kernel_rfl,by kernel_rfl⟩
theorem T.zv71:ZV Tryz.prog 71 (.agg #[.int .i64 ((0:Nat):Int),.string ByteArray.empty,.int .i64 ((0:Nat):Int),.int .i64 ((0:Nat):Int)]):=fun _=>by kernel_rfl
theorem T.cf120:CF Tryz.prog 120:=fun _ _=>by kernel_rfl
theorem T.sz71:SZ Tryz.prog 71 4:=fun _=>by kernel_rfl
theorem T.ag71:AG Tryz.prog 71 4:=fun _=>⟨by kernel_rfl,by kernel_rfl⟩
theorem T.cf121:CF Tryz.prog 121:=fun _ _=>by kernel_rfl
theorem T.sz9:SZ Tryz.prog 9 1:=fun _=>by kernel_rfl
theorem T.fa71_3:FA Tryz.prog 71 3 3:=fun _ _=>by kernel_rfl
theorem T.na3:NA Tryz.prog 3:=fun _=>by kernel_rfl
theorem T.sz3:SZ Tryz.prog 3 1:=fun _=>by kernel_rfl
theorem T.fa71_0:FA Tryz.prog 71 0 0:=fun _ _=>by kernel_rfl
theorem T.na69:NA Tryz.prog 69:=fun _=>by kernel_rfl
theorem T.fa71_1:FA Tryz.prog 71 1 1:=fun _ _=>by kernel_rfl
theorem T.cf124:CF Tryz.prog 124:=fun _ _=>by kernel_rfl
theorem signs121 (w0:World) :
  Calls Tryz.prog 121 #[] w0 fun e w'=>e= .returned (.agg (SG.map Value.string).toArray)∧Ext w0 w':=by
 refine enter Tryz.func121 rfl 2 Tryz.ntmps121 rfl<|?_
 refine sr fun Q1 k2=>?_
 refine st_e<|Eal (Hp.start No w0) T.zv207 fun b3 w4 H5 x6=>nl<|k2 _ _<|?_
 refine sr fun Q7 k8=>qt (v:=.agg #[.string (ByteArray.mk #[40]),.string (ByteArray.mk #[41]),.string (ByteArray.mk #[44]),.string (ByteArray.mk #[46]),.string (ByteArray.mk #[47]),.string (ByteArray.mk #[58,45]),.string (ByteArray.mk #[33,61])]) (x_build (fun _=>by kernel_rfl))<|?_
 refine st_s<|Est (v:=.agg #[.string (ByteArray.mk #[40]),.string (ByteArray.mk #[41]),.string (ByteArray.mk #[44]),.string (ByteArray.mk #[46]),.string (ByteArray.mk #[47]),.string (ByteArray.mk #[58,45]),.string (ByteArray.mk #[33,61])]) H5 0 T.sz207 rfl rfl rfl rfl rfl rfl fun w9 H10=>nl<|k8 _ _<|ret<|leaveC (P:=Tryz.prog) (fn:=Tryz.f121) (t:=0) (T:=207) (b:=b3) (o:=0) (cs:=[.string (ByteArray.mk #[40]),.string (ByteArray.mk #[41]),.string (ByteArray.mk #[44]),.string (ByteArray.mk #[46]),.string (ByteArray.mk #[47]),.string (ByteArray.mk #[58,45]),.string (ByteArray.mk #[33,61])]) rfl T.ag207 rfl (H10.lds 0 rfl 0 [.string (ByteArray.mk #[40]),.string (ByteArray.mk #[41]),.string (ByteArray.mk #[44]),.string (ByteArray.mk #[46]),.string (ByteArray.mk #[47]),.string (ByteArray.mk #[58,45]),.string (ByteArray.mk #[33,61])] rfl) ?_
 exact ⟨rfl,H10.x⟩
theorem next66 (t:ByteArray) (i0:Nat) (w0:World) (hs:t.size≤68719476736) (hi0:i0<t.size) :
  Calls Tryz.prog 66 #[.string t,.int .i64 ((i0:Nat):Int)] w0 fun e w'=>e= .returned (.tuple #[.agg (eK.enc (nextP ((bl t).drop i0) i0).1).toArray,.bool (nextP ((bl t).drop i0) i0).2])∧Ext w0 w':=by
 refine enter Tryz.func66 rfl 133 Tryz.ntmps66 rfl<|?_
 refine sr fun Q1 k2=>?_
 refine st_e<|Eal (Hp.start No w0) T.zv71 fun b3 w4 H5 x6=>qt asg<|nl<|k2 _ _<|seqK fun Q7 kn8 kr9 ke10=>?_
 refine sr fun Q11 k12=>qt mv<|qt mv<|qt (x_indexS Tryz.underlying9 rfl rfl (by omega))<|qt (x_eqlN (b:=34) rfl rfl)<|nl<|k12 _ _<|cnd (p:=(ch t i0)=34) rfl (fun h13=>?_) (fun h13=>?_)
 ·refine sr fun Q14 k15=>qt mv<|qt mv<|qt (addN (b:=1) rfl rfl)<|?_
  refine cl T.cf120 (quoted120 t (i0+1) _ (by omega) (by omega)) rfl fun _ w17 ⟨er,X16⟩=>⟨_,er,?_⟩
  have H18:=H5.ext X16
  refine qt mv<|qt (x_extract rfl rfl)<|qt (x_extract rfl rfl)<|qt (x_extract rfl rfl)<|qt asg<|qt asg<|qt asg<|nl<|k15 _ _<|?_
  refine sr fun Q19 k20=>qt mv<|qt mv<|qt mv<|qt (v:=.agg #[.int .i64 ((4:Nat):Int),.string (sN (quotedP ((bl t).drop (i0+1)) [] (i0+1)).1),.int .i64 ((i0:Nat):Int),.int .i64 (((quotedP ((bl t).drop (i0+1)) [] (i0+1)).2.1:Nat):Int)]) (x_build (fun _=>by kernel_rfl))<|qt mv<|?_
  refine st_s<|Est (v:=.agg #[.int .i64 ((4:Nat):Int),.string (sN (quotedP ((bl t).drop (i0+1)) [] (i0+1)).1),.int .i64 ((i0:Nat):Int),.int .i64 (((quotedP ((bl t).drop (i0+1)) [] (i0+1)).2.1:Nat):Int)]) H18 0 T.sz71 rfl rfl rfl rfl rfl rfl fun w21 H22=>qt asg<|nl<|k20 _ _<|ret<|kr9 _ _<|leaveCT (P:=Tryz.prog) (fn:=Tryz.f66) (t:=4) (u:=5) (T:=71) (b:=b3) (o:=0) (cs:=[.int .i64 ((4:Nat):Int),.string (sN (quotedP ((bl t).drop (i0+1)) [] (i0+1)).1),.int .i64 ((i0:Nat):Int),.int .i64 (((quotedP ((bl t).drop (i0+1)) [] (i0+1)).2.1:Nat):Int)]) (v:=.bool ((quotedP ((bl t).drop (i0+1)) [] (i0+1)).2.2)) rfl T.ag71 rfl (H22.lds 0 rfl 0 [.int .i64 ((4:Nat):Int),.string (sN (quotedP ((bl t).drop (i0+1)) [] (i0+1)).1),.int .i64 ((i0:Nat):Int),.int .i64 (((quotedP ((bl t).drop (i0+1)) [] (i0+1)).2.1:Nat):Int)] rfl) rfl ?_
  exact ⟨by rw [nx_q (by omega) (by assumption)];first | done | rfl,H22.x⟩
 ·refine skip<|kn8 _ _<|?_
  refine seqLK (n:=133) (ds:=[]) (α:=Unit) (fun _=>[(0,.string t),(1,.int .i64 ((i0:Nat):Int)),(4,.pointer (some ⟨b3,0,none⟩))]) (fun _ w23=>Hp No w0 w23 [cB b3 71 [.int .i64 ((0:Nat):Int),.string ByteArray.empty,.int .i64 ((0:Nat):Int),.int .i64 ((0:Nat):Int)]]∧∀ j,j<7→¬ ch t i0=ch (el SG j) 0) ?_ ?_
  ·intro Q24 kn25 kr26 ke27
   refine sr fun Q28 k29=>?_
   refine cl T.cf121 (signs121 _) rfl fun _ w31 ⟨er,X30⟩=>⟨_,er,?_⟩
   have H32:=H5.ext X30
   refine qt mv<|nl<|k29 _ _<|blockK fun Q33 kn34 kr35 kx36 kb37=>?_
   refine loopK (α:=Nat) (fun x=>[(0,.string t),(1,.int .i64 ((i0:Nat):Int)),(4,.pointer (some ⟨b3,0,none⟩)),(32,.agg (SG.map Value.string).toArray),(33,.int .i64 ((x:Nat):Int))]) (fun x w38=>Hp No w0 w38 [cB b3 71 [.int .i64 ((0:Nat):Int),.string ByteArray.empty,.int .i64 ((0:Nat):Int),.int .i64 ((0:Nat):Int)]]∧x≤7∧∀ j,j<x→¬ ch t i0=ch (el SG j) 0) (fun x=>7-x) (0) ⟨rfl,rfl,rfl,rfl,rfl,trivial⟩ ?_ ?_
   ·refine ⟨H32,?_⟩
    try dsimp only
    exact ⟨Nat.zero_le _,fun j h=>by omega⟩
   ·rintro τ39 k w40 ⟨hx41,⟨hk,hs7⟩⟩
    try dsimp only at hk hs7
    have hz42:=hx41.le
    intro Q43 kn44 kr45 ke46
    refine sr fun Q47 k48=>qt (x_lssN (b:=7) rfl rfl)<|nl<|k48 _ _<|seqK fun Q49 kn50 kr51 ke52=>cnd (p:=k<7) rfl (fun h53=>?_) (fun h53=>?_)
    ·refine skip<|kn50 _ _<|seqK fun Q54 kn55 kr56 ke57=>blockK fun Q58 kn59 kr60 kx61 kb62=>?_
     refine sr fun Q63 k64=>qt mv<|qt (x_indexA (xs:=SG) (i:=k) Tryz.underlying207 T.sz9 T.na9 rfl rfl rfl (by omega))<|qt asg<|qt asg<|nl<|k64 _ _<|seqK fun Q65 kn66 kr67 ke68=>seqK fun Q69 kn70 kr71 ke72=>regionD1 [] [0,1,2,3,4,5] (.one 0 (.one 1 (.one 2 (.one 3 (.one 4 (.one 5 .done)))))) (by kernel_rfl) (by kernel_rfl) fun w73 x74 s75=>?_
     have H76:=hx41.ext x74
     have S77:Ext w73 w73:=Below.refl _ _
     refine d_q rfl rfl (fun _=>mv)<|d_q rfl rfl (fun _=>mv)<|d_q rfl rfl (fun _=>x_indexS Tryz.underlying9 rfl rfl (by omega))<|d_q rfl rfl (fun _=>mv)<|d_q rfl rfl (fun _=>x_indexS (i:=0) Tryz.underlying9 rfl rfl (by have:=SG_sz (show k<7 by omega);omega))<|d_q rfl rfl (fun _=>x_neqN rfl rfl)<|d_done<|kn70 _ _<|cnd (p:=(ch t i0)≠(ch (el SG k) 0)) rfl (fun h78=>?_) (fun h78=>?_)
     ·refine exit<|ke68 _ _ _<|kb62 _ _<|kn55 _ _<|region<|qt (addN (b:=1) rfl rfl)<|qt mv<|nl<|kn44 _ ((k+1)) _ ⟨rfl,rfl,rfl,rfl,rfl,trivial⟩ ⟨H76,?_⟩ ?_
      ·try dsimp only
       exact ⟨by omega,fun j hj=>(Nat.lt_or_ge j k).elim (fun h=>hs7 j h) (fun h=>(by rw [show j=k by omega];assumption))⟩
      ·(try dsimp only);omega
     ·refine skip<|kn66 _ _<|?_
      refine sr fun Q79 k80=>qt mv<|qt (addN (a:=8) rfl rfl)<|qt mv<|qt mv<|qt (addN (b:=1) rfl rfl)<|qt (v:=.agg #[.int .i64 (((8+k):Nat):Int),.string ByteArray.empty,.int .i64 ((i0:Nat):Int),.int .i64 (((i0+1):Nat):Int)]) (x_build (fun _=>by kernel_rfl))<|?_
      refine st_e<|Eal H76 T.zv71 fun b81 w82 H83 x84=>?_
      refine st_s<|Est (v:=.agg #[.int .i64 (((8+k):Nat):Int),.string ByteArray.empty,.int .i64 ((i0:Nat):Int),.int .i64 (((i0+1):Nat):Int)]) H83 0 T.sz71 rfl rfl rfl rfl rfl rfl fun w85 H86=>nl<|k80 _ _<|seqK fun Q87 kn88 kr89 ke90=>?_
      refine sr fun Q91 k92=>qt mv<|qt (x_lenS rfl Tryz.underlying9 rfl)<|qt (x_eqlN (b:=2) rfl rfl)<|nl<|k92 _ _<|cnd (p:=((el SG k).size)=2) rfl (fun h93=>?_) (fun h93=>?_)
      ·refine seqK fun Q94 kn95 kr96 ke97=>seqK fun Q98 kn99 kr100 ke101=>regionD1 [] [0,1,2,3,4,5,6,7,8,9,10,11,12,13] (.one 0 (.one 1 (.one 2 (.one 3 (.one 4 (.one 5 (.one 6 (.one 7 (.one 8 (.one 9 (.one 10 (.one 11 (.one 12 (.one 13 .done)))))))))))))) (by kernel_rfl) (by kernel_rfl) fun w102 x103 s104=>?_
       have H105:=H86.ext x103
       have S106:Ext w102 w102:=Below.refl _ _
       refine d_q rfl rfl (fun _=>mv)<|d_q rfl rfl (fun _=>addN (b:=1) rfl rfl)<|d_q rfl rfl (fun _=>mv)<|d_q rfl rfl (fun _=>x_lenS rfl Tryz.underlying9 rfl)<|d_q rfl rfl (fun _=>x_eqlN rfl rfl)<|d_if rfl rfl (p:=(i0+1)=t.size) (fun _=>mv) (fun h107=>?_) (fun h107=>?_)
       ·refine d_gn (j:=5) (t:=57) rfl rfl rfl rfl (by decide) rfl<|d_gn (j:=5) (t:=57) rfl rfl rfl rfl (by decide) rfl<|d_gn (j:=5) (t:=57) rfl rfl rfl rfl (by decide) rfl<|d_gn (j:=5) (t:=57) rfl rfl rfl rfl (by decide) rfl<|d_gn (j:=5) (t:=57) rfl rfl rfl rfl (by decide) rfl<|d_gn (j:=5) (t:=57) rfl rfl rfl rfl (by decide) rfl<|d_gn (j:=5) (t:=57) rfl rfl rfl rfl (by decide) rfl<|d_q rfl rfl (fun _=>pkT rfl)<|d_done<|kn99 _ _<|cndT rfl<|?_
        refine sr fun Q108 k109=>qt (x_loadA [.int .i64 (((8+k):Nat):Int),.string ByteArray.empty,.int .i64 ((i0:Nat):Int),.int .i64 (((i0+1):Nat):Int)] T.ag71 rfl (H105.lds 0 rfl 0 [.int .i64 (((8+k):Nat):Int),.string ByteArray.empty,.int .i64 ((i0:Nat):Int),.int .i64 (((i0+1):Nat):Int)] rfl))<|?_
        refine st_s<|Est (v:=.agg #[.int .i64 (((8+k):Nat):Int),.string ByteArray.empty,.int .i64 ((i0:Nat):Int),.int .i64 (((i0+1):Nat):Int)]) H105 1 T.sz71 rfl rfl rfl rfl rfl rfl fun w110 H111=>qt asg<|nl<|k109 _ _<|ret<|kr96 _ _<|kr89 _ _<|kr60 _ _<|kr56 _ _<|kr45 _ _<|kr35 _ _<|kr26 _ _<|leaveCT (P:=Tryz.prog) (fn:=Tryz.f66) (t:=4) (u:=5) (T:=71) (b:=b3) (o:=0) (cs:=[.int .i64 (((8+k):Nat):Int),.string ByteArray.empty,.int .i64 ((i0:Nat):Int),.int .i64 (((i0+1):Nat):Int)]) (v:=.bool false) rfl T.ag71 rfl (H111.lds 1 rfl 0 [.int .i64 (((8+k):Nat):Int),.string ByteArray.empty,.int .i64 ((i0:Nat):Int),.int .i64 (((i0+1):Nat):Int)] rfl) rfl ?_
        exact ⟨by rw [sg_open (by omega) (by omega) (by omega) (by omega) (by omega)];first | done | rfl,H111.x⟩
       ·refine d_gq (j:=5) (t:=57) rfl rfl rfl rfl (by decide) (fun _=>mv)<|d_gq (j:=5) (t:=57) rfl rfl rfl rfl (by decide) (fun _=>mv)<|d_gq (j:=5) (t:=57) rfl rfl rfl rfl (by decide) (fun _=>addN (b:=1) rfl rfl)<|d_gq (j:=5) (t:=57) rfl rfl rfl rfl (by decide) (fun _=>x_indexS Tryz.underlying9 rfl rfl (by omega))<|d_gq (j:=5) (t:=57) rfl rfl rfl rfl (by decide) (fun _=>mv)<|d_gq (j:=5) (t:=57) rfl rfl rfl rfl (by decide) (fun _=>x_indexS (i:=1) Tryz.underlying9 rfl rfl (by omega))<|d_gq (j:=5) (t:=57) rfl rfl rfl rfl (by decide) (fun _=>x_neqN rfl rfl)<|d_q rfl rfl (fun _=>pkF rfl)<|d_done<|kn99 _ _<|cnd (p:=(ch t (i0+1))≠(ch (el SG k) 1)) rfl (fun h112=>?_) (fun h112=>?_)
        ·refine sr fun Q113 k114=>qt (x_loadA [.int .i64 (((8+k):Nat):Int),.string ByteArray.empty,.int .i64 ((i0:Nat):Int),.int .i64 (((i0+1):Nat):Int)] T.ag71 rfl (H105.lds 0 rfl 0 [.int .i64 (((8+k):Nat):Int),.string ByteArray.empty,.int .i64 ((i0:Nat):Int),.int .i64 (((i0+1):Nat):Int)] rfl))<|?_
         refine st_s<|Est (v:=.agg #[.int .i64 (((8+k):Nat):Int),.string ByteArray.empty,.int .i64 ((i0:Nat):Int),.int .i64 (((i0+1):Nat):Int)]) H105 1 T.sz71 rfl rfl rfl rfl rfl rfl fun w115 H116=>qt asg<|nl<|k114 _ _<|ret<|kr96 _ _<|kr89 _ _<|kr60 _ _<|kr56 _ _<|kr45 _ _<|kr35 _ _<|kr26 _ _<|leaveCT (P:=Tryz.prog) (fn:=Tryz.f66) (t:=4) (u:=5) (T:=71) (b:=b3) (o:=0) (cs:=[.int .i64 (((8+k):Nat):Int),.string ByteArray.empty,.int .i64 ((i0:Nat):Int),.int .i64 (((i0+1):Nat):Int)]) (v:=.bool false) rfl T.ag71 rfl (H116.lds 1 rfl 0 [.int .i64 (((8+k):Nat):Int),.string ByteArray.empty,.int .i64 ((i0:Nat):Int),.int .i64 (((i0+1):Nat):Int)] rfl) rfl ?_
         exact ⟨by rw [sg_open (by omega) (by omega) (by omega) (by omega) (by omega)];first | done | rfl,H116.x⟩
        ·refine skip<|kn95 _ _<|region<|qt (x_field (o:=0) T.fa71_3 rfl)<|qt (x_load1 T.na3 rfl (H105.ld 0 rfl 3 rfl))<|qt (addN (b:=1) rfl rfl)<|qt (x_field (o:=0) T.fa71_3 rfl)<|?_
         refine st_s<|Est (v:=.int .i64 ((((i0+1)+1):Nat):Int)) H105 0 T.sz3 rfl rfl rfl rfl rfl rfl fun w117 H118=>nl<|kn88 _ _<|?_
         refine sr fun Q119 k120=>qt (x_loadA [.int .i64 (((8+k):Nat):Int),.string ByteArray.empty,.int .i64 ((i0:Nat):Int),.int .i64 ((((i0+1)+1):Nat):Int)] T.ag71 rfl (H118.lds 0 rfl 0 [.int .i64 (((8+k):Nat):Int),.string ByteArray.empty,.int .i64 ((i0:Nat):Int),.int .i64 ((((i0+1)+1):Nat):Int)] rfl))<|?_
         refine st_s<|Est (v:=.agg #[.int .i64 (((8+k):Nat):Int),.string ByteArray.empty,.int .i64 ((i0:Nat):Int),.int .i64 ((((i0+1)+1):Nat):Int)]) H118 1 T.sz71 rfl rfl rfl rfl rfl rfl fun w121 H122=>qt asg<|nl<|k120 _ _<|ret<|kr60 _ _<|kr56 _ _<|kr45 _ _<|kr35 _ _<|kr26 _ _<|leaveCT (P:=Tryz.prog) (fn:=Tryz.f66) (t:=4) (u:=5) (T:=71) (b:=b3) (o:=0) (cs:=[.int .i64 (((8+k):Nat):Int),.string ByteArray.empty,.int .i64 ((i0:Nat):Int),.int .i64 ((((i0+1)+1):Nat):Int)]) (v:=.bool true) rfl T.ag71 rfl (H122.lds 1 rfl 0 [.int .i64 (((8+k):Nat):Int),.string ByteArray.empty,.int .i64 ((i0:Nat):Int),.int .i64 ((((i0+1)+1):Nat):Int)] rfl) rfl ?_
         exact ⟨by rw [sg_two (by omega) (by omega) (by omega) (by omega) (by omega) (by omega)];first | done | rfl,H122.x⟩
      ·refine skip<|kn88 _ _<|?_
       refine sr fun Q123 k124=>qt (x_loadA [.int .i64 (((8+k):Nat):Int),.string ByteArray.empty,.int .i64 ((i0:Nat):Int),.int .i64 (((i0+1):Nat):Int)] T.ag71 rfl (H86.lds 0 rfl 0 [.int .i64 (((8+k):Nat):Int),.string ByteArray.empty,.int .i64 ((i0:Nat):Int),.int .i64 (((i0+1):Nat):Int)] rfl))<|?_
       refine st_s<|Est (v:=.agg #[.int .i64 (((8+k):Nat):Int),.string ByteArray.empty,.int .i64 ((i0:Nat):Int),.int .i64 (((i0+1):Nat):Int)]) H86 1 T.sz71 rfl rfl rfl rfl rfl rfl fun w125 H126=>qt asg<|nl<|k124 _ _<|ret<|kr60 _ _<|kr56 _ _<|kr45 _ _<|kr35 _ _<|kr26 _ _<|leaveCT (P:=Tryz.prog) (fn:=Tryz.f66) (t:=4) (u:=5) (T:=71) (b:=b3) (o:=0) (cs:=[.int .i64 (((8+k):Nat):Int),.string ByteArray.empty,.int .i64 ((i0:Nat):Int),.int .i64 (((i0+1):Nat):Int)]) (v:=.bool true) rfl T.ag71 rfl (H126.lds 1 rfl 0 [.int .i64 (((8+k):Nat):Int),.string ByteArray.empty,.int .i64 ((i0:Nat):Int),.int .i64 (((i0+1):Nat):Int)] rfl) rfl ?_
       exact ⟨by rw [sg_one (by omega) (by omega) (by omega) (by omega)];first | done | rfl,H126.x⟩
    ·refine exit<|ke52 _ _ _<|ke46 _ _ _<|kb37 _ _<|?_
     refine kn25 _ () _ ⟨rfl,rfl,rfl,trivial⟩ ⟨hx41,?_⟩
     exact fun j hj=>hs7 j (by omega)
  ·rintro τ127 _ w128 ⟨H129,hs7⟩
   refine sr fun Q130 k131=>qt mv<|qt asg<|nl<|k131 _ _<|?_
   refine seqLK (n:=133) (ds:=[]) (α:=Bool) (fun x=>[(0,.string t),(1,.int .i64 ((i0:Nat):Int)),(4,.pointer (some ⟨b3,0,none⟩)),(12,.int .i64 ((i0:Nat):Int)),(13,.bool x)]) (fun x w132=>Hp No w0 w132 [cB b3 71 [.int .i64 ((0:Nat):Int),.string ByteArray.empty,.int .i64 ((0:Nat):Int),.int .i64 ((0:Nat):Int)]]∧x=decide (Dg (ch t i0))) ?_ ?_
   ·intro Q133 kn134 kr135 ke136
    refine region<|qt mv<|qt mv<|qt (x_indexS Tryz.underlying9 rfl rfl (by omega))<|qt (x_geqN (b:=48) rfl rfl)<|st_if (p:=48≤(ch t i0)) (x_move rfl) (fun h137=>?_) (fun h137=>?_)
    ·refine st_gq 4 78 rfl rfl (by decide)<|qt mv<|st_gq 4 78 rfl rfl (by decide)<|qt mv<|st_gq 4 78 rfl rfl (by decide)<|qt (x_indexS Tryz.underlying9 rfl rfl (by omega))<|st_gq 4 78 rfl rfl (by decide)<|qt (x_leqN (b:=57) rfl rfl)<|qt (pkT rfl)<|qt asg<|nl<|?_
     refine kn134 _ ((decide ((ch t i0)≤57))) _ ⟨rfl,rfl,rfl,rfl,rfl,trivial⟩ ⟨H129,?_⟩
     try dsimp only
     first | exact (decide_eq_decide.2 (by omega)) | exact (decide_eq_false (by omega)).symm | exact (decide_eq_true (by omega)).symm
    ·refine st_gn 4 78 rfl rfl (by decide) rfl<|st_gn 4 78 rfl rfl (by decide) rfl<|st_gn 4 78 rfl rfl (by decide) rfl<|st_gn 4 78 rfl rfl (by decide) rfl<|qt (pkF rfl)<|qt asg<|nl<|?_
     refine kn134 _ (false) _ ⟨rfl,rfl,rfl,rfl,rfl,trivial⟩ ⟨H129,?_⟩
     try dsimp only
     first | exact (decide_eq_decide.2 (by omega)) | exact (decide_eq_false (by omega)).symm | exact (decide_eq_true (by omega)).symm
   ·rintro τ138 num w139 ⟨H140,hn⟩
    try dsimp only at H140 hn ⊢
    refine seqLK (n:=133) (ds:=[]) (α:=Nat) (fun x=>[(0,.string t),(1,.int .i64 ((i0:Nat):Int)),(4,.pointer (some ⟨b3,0,none⟩)),(12,.int .i64 ((x:Nat):Int))]) (fun x w141=>Hp No w0 w141 [cB b3 71 [.int .i64 ((0:Nat):Int),.string ByteArray.empty,.int .i64 ((0:Nat):Int),.int .i64 ((0:Nat):Int)]]∧WdI t i0 num x∧WdE t i0 num x) ?_ ?_
    ·intro Q142 kn143 kr144 ke145
     refine blockK fun Q146 kn147 kr148 kx149 kb150=>?_
     refine loopK (α:=Nat) (fun x=>[(0,.string t),(1,.int .i64 ((i0:Nat):Int)),(4,.pointer (some ⟨b3,0,none⟩)),(12,.int .i64 ((x:Nat):Int)),(13,.bool num)]) (fun x w151=>w139=w151∧WdI t i0 num x) (fun x=>t.size-x) (i0) ⟨rfl,rfl,rfl,rfl,rfl,trivial⟩ ?_ ?_
     ·refine ⟨rfl,?_⟩
      try dsimp only
      exact ⟨Nat.le_refl _,by omega,by omega,by simp⟩
     ·rintro τ152 e w153 ⟨rfl,he⟩
      try dsimp only at he
      intro Q154 kn155 kr156 ke157
      have he1:=he.1
      have he2:=he.2.1
      have he3:=he.2.2.1
      refine seqK fun Q158 kn159 kr160 ke161=>?_
      refine sr fun Q162 k163=>qt mv<|qt mv<|qt (x_lenS rfl Tryz.underlying9 rfl)<|qt (x_lssN rfl rfl)<|st_if (p:=e<t.size) (x_move rfl) (fun h164=>?_) (fun h164=>?_)
      ·refine st_gq 4 88 rfl rfl (by decide)<|qt mv<|st_gq 4 88 rfl rfl (by decide)<|qt mv<|st_gq 4 88 rfl rfl (by decide)<|qt (addN (b:=64) rfl rfl)<|st_gq 4 88 rfl rfl (by decide)<|qt (x_lssN rfl rfl)<|qt (pkT rfl)<|st_if (p:=e<(i0+64)) (x_move rfl) (fun h165=>?_) (fun h165=>?_)
       ·refine st_gq 10 94 rfl rfl (by decide)<|qt mv<|st_gq 10 94 rfl rfl (by decide)<|qt mv<|st_gq 10 94 rfl rfl (by decide)<|qt (x_indexS Tryz.underlying9 rfl rfl (by omega))<|st_gq 10 94 rfl rfl (by decide)<|?_
        refine cl T.cf122 (word122 _ _) rfl fun _ _ ⟨er,rfl⟩=>⟨_,er,?_⟩
        refine qt (pkT rfl)<|st_if (p:=Go.QP.Lt (ch t e)) (x_move rfl) (fun h167=>?_) (fun h167=>?_)
        ·refine st_gq 16 100 rfl rfl (by decide)<|qt mv<|st_gq 16 100 rfl rfl (by decide)<|qt (x_notBB rfl)<|st_gq 16 100 rfl rfl (by decide)<|st_if (p:=¬ (num=true)) (x_move rfl) (fun h168=>?_) (fun h168=>?_)
         ·refine st_gn 19 103 rfl rfl (by decide) rfl<|st_gn 19 103 rfl rfl (by decide) rfl<|st_gn 19 103 rfl rfl (by decide) rfl<|st_gn 19 103 rfl rfl (by decide) rfl<|st_gq 16 100 rfl rfl (by decide)<|qt (pkT rfl)<|qt (pkT rfl)<|nl<|k163 _ _<|cndT rfl<|skip<|kn159 _ _<|blockK fun Q169 kn170 kr171 kx172 kb173=>region<|qt mv<|qt (addN (b:=1) rfl rfl)<|qt asg<|nl<|kn170 _ _<|kn155 _ ((e+1)) _ ⟨rfl,rfl,rfl,rfl,rfl,trivial⟩ ⟨rfl,?_⟩ ?_
          ·try dsimp only
           exact he.step (by omega) (by omega) (by assumption) (by first | exact fun h=>absurd h (by assumption) | exact fun _=>(by assumption))
          ·(try dsimp only);omega
         ·refine st_gq 19 103 rfl rfl (by decide)<|qt mv<|st_gq 19 103 rfl rfl (by decide)<|qt mv<|st_gq 19 103 rfl rfl (by decide)<|qt (x_indexS Tryz.underlying9 rfl rfl (by omega))<|st_gq 19 103 rfl rfl (by decide)<|qt (x_leqN (b:=57) rfl rfl)<|st_gq 16 100 rfl rfl (by decide)<|qt (pkF rfl)<|qt (pkT rfl)<|nl<|k163 _ _<|cnd (p:=(ch t e)≤57) rfl (fun h174=>?_) (fun h174=>?_)
          ·refine skip<|kn159 _ _<|blockK fun Q175 kn176 kr177 kx178 kb179=>region<|qt mv<|qt (addN (b:=1) rfl rfl)<|qt asg<|nl<|kn176 _ _<|kn155 _ ((e+1)) _ ⟨rfl,rfl,rfl,rfl,rfl,trivial⟩ ⟨rfl,?_⟩ ?_
           ·try dsimp only
            exact he.step (by omega) (by omega) (by assumption) (by first | exact fun h=>absurd h (by assumption) | exact fun _=>(by assumption))
           ·(try dsimp only);omega
          ·refine exit<|ke161 _ _ _<|ke157 _ _ _<|kb150 _ _<|?_
           refine kn143 _ (e) _ ⟨rfl,rfl,rfl,rfl,trivial⟩ ⟨H140,?_⟩
           try dsimp only
           exact ⟨he,by first | exact .inl (by omega) | exact .inr (.inl (by omega)) | exact .inr (.inr (fun h=>absurd h.1 (by assumption))) | exact .inr (.inr (fun h=>absurd (h.2 (Decidable.of_not_not (by assumption))) (by assumption)))⟩
        ·refine st_gn 16 100 rfl rfl (by decide) rfl<|st_gn 16 100 rfl rfl (by decide) rfl<|st_gn 16 100 rfl rfl (by decide) rfl<|st_gu 19 103 rfl rfl (by decide)<|st_gu 19 103 rfl rfl (by decide)<|st_gu 19 103 rfl rfl (by decide)<|st_gu 19 103 rfl rfl (by decide)<|st_gn 16 100 rfl rfl (by decide) rfl<|qt (pkF rfl)<|nl<|k163 _ _<|cndF rfl<|exit<|ke161 _ _ _<|ke157 _ _ _<|kb150 _ _<|?_
         refine kn143 _ (e) _ ⟨rfl,rfl,rfl,rfl,trivial⟩ ⟨H140,?_⟩
         try dsimp only
         exact ⟨he,by first | exact .inl (by omega) | exact .inr (.inl (by omega)) | exact .inr (.inr (fun h=>absurd h.1 (by assumption))) | exact .inr (.inr (fun h=>absurd (h.2 (Decidable.of_not_not (by assumption))) (by assumption)))⟩
       ·refine st_gn 10 94 rfl rfl (by decide) rfl<|st_gn 10 94 rfl rfl (by decide) rfl<|st_gn 10 94 rfl rfl (by decide) rfl<|st_gn 10 94 rfl rfl (by decide) rfl<|qt (pkF rfl)<|qt mv<|st_gn 16 100 rfl rfl (by decide) rfl<|st_gn 16 100 rfl rfl (by decide) rfl<|st_gn 16 100 rfl rfl (by decide) rfl<|st_gu 19 103 rfl rfl (by decide)<|st_gu 19 103 rfl rfl (by decide)<|st_gu 19 103 rfl rfl (by decide)<|st_gu 19 103 rfl rfl (by decide)<|st_gn 16 100 rfl rfl (by decide) rfl<|qt (pkF rfl)<|nl<|k163 _ _<|cndF rfl<|exit<|ke161 _ _ _<|ke157 _ _ _<|kb150 _ _<|?_
        refine kn143 _ (e) _ ⟨rfl,rfl,rfl,rfl,trivial⟩ ⟨H140,?_⟩
        try dsimp only
        exact ⟨he,by first | exact .inl (by omega) | exact .inr (.inl (by omega)) | exact .inr (.inr (fun h=>absurd h.1 (by assumption))) | exact .inr (.inr (fun h=>absurd (h.2 (Decidable.of_not_not (by assumption))) (by assumption)))⟩
      ·refine st_gn 4 88 rfl rfl (by decide) rfl<|st_gn 4 88 rfl rfl (by decide) rfl<|st_gn 4 88 rfl rfl (by decide) rfl<|st_gn 4 88 rfl rfl (by decide) rfl<|qt (pkF rfl)<|qt mv<|st_gn 10 94 rfl rfl (by decide) rfl<|st_gn 10 94 rfl rfl (by decide) rfl<|st_gn 10 94 rfl rfl (by decide) rfl<|st_gn 10 94 rfl rfl (by decide) rfl<|qt (pkF rfl)<|qt mv<|st_gn 16 100 rfl rfl (by decide) rfl<|st_gn 16 100 rfl rfl (by decide) rfl<|st_gn 16 100 rfl rfl (by decide) rfl<|st_gu 19 103 rfl rfl (by decide)<|st_gu 19 103 rfl rfl (by decide)<|st_gu 19 103 rfl rfl (by decide)<|st_gu 19 103 rfl rfl (by decide)<|st_gn 16 100 rfl rfl (by decide) rfl<|qt (pkF rfl)<|nl<|k163 _ _<|cndF rfl<|exit<|ke161 _ _ _<|ke157 _ _ _<|kb150 _ _<|?_
       refine kn143 _ (e) _ ⟨rfl,rfl,rfl,rfl,trivial⟩ ⟨H140,?_⟩
       try dsimp only
       exact ⟨he,by first | exact .inl (by omega) | exact .inr (.inl (by omega)) | exact .inr (.inr (fun h=>absurd h.1 (by assumption))) | exact .inr (.inr (fun h=>absurd (h.2 (Decidable.of_not_not (by assumption))) (by assumption)))⟩
    ·rintro τ180 e w181 ⟨H182,⟨he,hw0⟩⟩
     try dsimp only at H182 he hw0 ⊢
     have he1:=he.1
     have he2:=he.2.1
     have he3:=he.2.2.1
     refine seqK fun Q183 kn184 kr185 ke186=>regionD1 [] [0,1,2,3,5,6,7,8,9,10,11] (.one 0 (.one 1 (.one 2 (.one 3 (.one 5 (.one 6 (.one 7 (.one 8 (.one 9 (.one 10 (.two 4 (.one 11 (.one 12 (.one 13 .done))) 12 (.one 4 (.one 11 (.one 13 .done)))))))))))))) (by kernel_rfl) (by kernel_rfl) fun w187 x188 s189=>?_
     have H190:=H182.ext x188
     have S191:Ext w187 w187:=Below.refl _ _
     refine d_q rfl rfl (fun _=>mv)<|d_q rfl rfl (fun _=>mv)<|d_q rfl rfl (fun _=>mv)<|d_q rfl rfl (fun _=>x_sliceSLH Tryz.underlying9 rfl rfl rfl (by omega) (by omega))<|d_q rfl rfl (fun _=>mv)<|d_q rfl rfl (fun _=>mv)<|d_q rfl rfl (fun _=>mv)<|d_q rfl rfl (fun _=>x_sliceSLH Tryz.underlying9 rfl rfl rfl (by omega) (by omega))<|d_q rfl rfl (fun _=>mv)<|d_q rfl rfl (fun _=>mv)<|d_two ?_ ?_
     ·refine id<|d_c' rfl rfl (t_call _ T.cf123 rfl rfl) (kind123 (t.extract i0 e) _ (by rw [size_extract];omega)) fun _ _ ⟨er,rfl⟩=>⟨_,er,?_⟩
      refine ⟨fun _=>S191,?_⟩
      refine d_q (v:=.agg #[.int .i64 (((kind (t.extract i0 e)):Nat):Int),.string (t.extract i0 e),.int .i64 ((i0:Nat):Int),.int .i64 ((e:Nat):Int)]) rfl rfl (fun _=>x_build (fun _=>by kernel_rfl))<|d_e (by decide)<|d_e' rfl rfl<|Eal H190 T.zv71 fun b193 w194 H195 x196=>?_
      have S197:=S191.trans (x196.mono S191.size)
      refine ⟨fun _=>S197,?_⟩
      refine d_e (by decide)<|d_s' rfl rfl<|Est (v:=.agg #[.int .i64 (((kind (t.extract i0 e)):Nat):Int),.string (t.extract i0 e),.int .i64 ((i0:Nat):Int),.int .i64 ((e:Nat):Int)]) H195 0 T.sz71 rfl rfl rfl rfl rfl rfl fun w198 H199=>⟨need_no (by kernel_rfl),?_⟩
      refine d_done<|kn184 _ _<|seqK fun Q200 kn201 kr202 ke203=>?_
      refine sr fun Q204 k205=>qt (x_field (o:=0) T.fa71_0 rfl)<|qt (x_load1 T.na69 rfl (H199.ld 0 rfl 0 rfl))<|qt (x_eqlN (b:=0) rfl rfl)<|nl<|k205 _ _<|cnd (p:=(kind (t.extract i0 e))=0) rfl (fun h206=>?_) (fun h206=>?_)
      ·refine sr fun Q207 k208=>qt (v:=.agg #[.int .i64 ((0:Nat):Int),.string ByteArray.empty,.int .i64 ((0:Nat):Int),.int .i64 ((0:Nat):Int)]) (x_build (fun _=>by kernel_rfl))<|?_
       refine st_s<|Est (v:=.agg #[.int .i64 ((0:Nat):Int),.string ByteArray.empty,.int .i64 ((0:Nat):Int),.int .i64 ((0:Nat):Int)]) H199 1 T.sz71 rfl rfl rfl rfl rfl rfl fun w209 H210=>qt asg<|nl<|k208 _ _<|ret<|kr202 _ _<|leaveCT (P:=Tryz.prog) (fn:=Tryz.f66) (t:=4) (u:=5) (T:=71) (b:=b3) (o:=0) (cs:=[.int .i64 ((0:Nat):Int),.string ByteArray.empty,.int .i64 ((0:Nat):Int),.int .i64 ((0:Nat):Int)]) (v:=.bool false) rfl T.ag71 rfl (H210.lds 1 rfl 0 [.int .i64 ((0:Nat):Int),.string ByteArray.empty,.int .i64 ((0:Nat):Int),.int .i64 ((0:Nat):Int)] rfl) rfl ?_
       exact ⟨by rw [sg_none (by omega) (by assumption) hs7,wd_no (by omega) hn he hw0 (by assumption)];first | done | rfl,H210.x⟩
      ·refine skip<|kn201 _ _<|seqK fun Q211 kn212 kr213 ke214=>?_
       refine sr fun Q215 k216=>qt (x_field (o:=0) T.fa71_1 rfl)<|qt (x_load1 T.na9 rfl (H199.ld 0 rfl 1 rfl))<|?_
       refine cl T.cf124 (rsv124 (t.extract i0 e) _) rfl fun _ _ ⟨er,rfl⟩=>⟨_,er,?_⟩
       refine nl<|k216 _ _<|cnd (p:=Rsv (t.extract i0 e)) rfl (fun h218=>?_) (fun h218=>?_)
       ·refine region<|qt (x_field (o:=0) T.fa71_1 rfl)<|?_
        refine st_s<|Est (v:=.string (ByteArray.mk #[])) H199 0 T.sz9 rfl rfl rfl rfl rfl rfl fun w219 H220=>nl<|kn212 _ _<|?_
        refine sr fun Q221 k222=>qt (x_loadA [.int .i64 (((kind (t.extract i0 e)):Nat):Int),.string (ByteArray.mk #[]),.int .i64 ((i0:Nat):Int),.int .i64 ((e:Nat):Int)] T.ag71 rfl (H220.lds 0 rfl 0 [.int .i64 (((kind (t.extract i0 e)):Nat):Int),.string (ByteArray.mk #[]),.int .i64 ((i0:Nat):Int),.int .i64 ((e:Nat):Int)] rfl))<|?_
        refine st_s<|Est (v:=.agg #[.int .i64 (((kind (t.extract i0 e)):Nat):Int),.string (ByteArray.mk #[]),.int .i64 ((i0:Nat):Int),.int .i64 ((e:Nat):Int)]) H220 1 T.sz71 rfl rfl rfl rfl rfl rfl fun w223 H224=>qt asg<|nl<|k222 _ _<|ret<|leaveCT (P:=Tryz.prog) (fn:=Tryz.f66) (t:=4) (u:=5) (T:=71) (b:=b3) (o:=0) (cs:=[.int .i64 (((kind (t.extract i0 e)):Nat):Int),.string (ByteArray.mk #[]),.int .i64 ((i0:Nat):Int),.int .i64 ((e:Nat):Int)]) (v:=.bool true) rfl T.ag71 rfl (H224.lds 1 rfl 0 [.int .i64 (((kind (t.extract i0 e)):Nat):Int),.string (ByteArray.mk #[]),.int .i64 ((i0:Nat):Int),.int .i64 ((e:Nat):Int)] rfl) rfl ?_
        exact ⟨by rw [sg_none (by omega) (by assumption) hs7,wd_yes (by omega) hn he hw0 (by assumption) (by assumption)];first | done | rfl,H224.x⟩
       ·refine skip<|kn212 _ _<|?_
        refine sr fun Q225 k226=>qt (x_loadA [.int .i64 (((kind (t.extract i0 e)):Nat):Int),.string (t.extract i0 e),.int .i64 ((i0:Nat):Int),.int .i64 ((e:Nat):Int)] T.ag71 rfl (H199.lds 0 rfl 0 [.int .i64 (((kind (t.extract i0 e)):Nat):Int),.string (t.extract i0 e),.int .i64 ((i0:Nat):Int),.int .i64 ((e:Nat):Int)] rfl))<|?_
        refine st_s<|Est (v:=.agg #[.int .i64 (((kind (t.extract i0 e)):Nat):Int),.string (t.extract i0 e),.int .i64 ((i0:Nat):Int),.int .i64 ((e:Nat):Int)]) H199 1 T.sz71 rfl rfl rfl rfl rfl rfl fun w227 H228=>qt asg<|nl<|k226 _ _<|ret<|leaveCT (P:=Tryz.prog) (fn:=Tryz.f66) (t:=4) (u:=5) (T:=71) (b:=b3) (o:=0) (cs:=[.int .i64 (((kind (t.extract i0 e)):Nat):Int),.string (t.extract i0 e),.int .i64 ((i0:Nat):Int),.int .i64 ((e:Nat):Int)]) (v:=.bool true) rfl T.ag71 rfl (H228.lds 1 rfl 0 [.int .i64 (((kind (t.extract i0 e)):Nat):Int),.string (t.extract i0 e),.int .i64 ((i0:Nat):Int),.int .i64 ((e:Nat):Int)] rfl) rfl ?_
        exact ⟨by rw [sg_none (by omega) (by assumption) hs7,wd_yes' (by omega) hn he hw0 (by assumption) (by assumption)];first | done | rfl,H228.x⟩
     ·refine id<|d_e' rfl rfl<|Eal H190 T.zv71 fun b229 w230 H231 x232=>?_
      have S233:=S191.trans (x232.mono S191.size)
      refine ⟨fun _=>S233,?_⟩
      refine d_e (by decide)<|d_c' rfl rfl (t_call _ T.cf123 rfl rfl) (kind123 (t.extract i0 e) _ (by rw [size_extract];omega)) fun _ _ ⟨er,rfl⟩=>⟨_,er,?_⟩
      refine ⟨fun _=>S233,?_⟩
      refine d_q (v:=.agg #[.int .i64 (((kind (t.extract i0 e)):Nat):Int),.string (t.extract i0 e),.int .i64 ((i0:Nat):Int),.int .i64 ((e:Nat):Int)]) rfl rfl (fun _=>x_build (fun _=>by kernel_rfl))<|d_e (by decide)<|d_s' rfl rfl<|Est (v:=.agg #[.int .i64 (((kind (t.extract i0 e)):Nat):Int),.string (t.extract i0 e),.int .i64 ((i0:Nat):Int),.int .i64 ((e:Nat):Int)]) H231 0 T.sz71 rfl rfl rfl rfl rfl rfl fun w235 H236=>⟨need_no (by kernel_rfl),?_⟩
      refine d_done<|kn184 _ _<|seqK fun Q237 kn238 kr239 ke240=>?_
      refine sr fun Q241 k242=>qt (x_field (o:=0) T.fa71_0 rfl)<|qt (x_load1 T.na69 rfl (H236.ld 0 rfl 0 rfl))<|qt (x_eqlN (b:=0) rfl rfl)<|nl<|k242 _ _<|cnd (p:=(kind (t.extract i0 e))=0) rfl (fun h243=>?_) (fun h243=>?_)
      ·refine sr fun Q244 k245=>qt (v:=.agg #[.int .i64 ((0:Nat):Int),.string ByteArray.empty,.int .i64 ((0:Nat):Int),.int .i64 ((0:Nat):Int)]) (x_build (fun _=>by kernel_rfl))<|?_
       refine st_s<|Est (v:=.agg #[.int .i64 ((0:Nat):Int),.string ByteArray.empty,.int .i64 ((0:Nat):Int),.int .i64 ((0:Nat):Int)]) H236 1 T.sz71 rfl rfl rfl rfl rfl rfl fun w246 H247=>qt asg<|nl<|k245 _ _<|ret<|kr239 _ _<|leaveCT (P:=Tryz.prog) (fn:=Tryz.f66) (t:=4) (u:=5) (T:=71) (b:=b3) (o:=0) (cs:=[.int .i64 ((0:Nat):Int),.string ByteArray.empty,.int .i64 ((0:Nat):Int),.int .i64 ((0:Nat):Int)]) (v:=.bool false) rfl T.ag71 rfl (H247.lds 1 rfl 0 [.int .i64 ((0:Nat):Int),.string ByteArray.empty,.int .i64 ((0:Nat):Int),.int .i64 ((0:Nat):Int)] rfl) rfl ?_
       exact ⟨by rw [sg_none (by omega) (by assumption) hs7,wd_no (by omega) hn he hw0 (by assumption)];first | done | rfl,H247.x⟩
      ·refine skip<|kn238 _ _<|seqK fun Q248 kn249 kr250 ke251=>?_
       refine sr fun Q252 k253=>qt (x_field (o:=0) T.fa71_1 rfl)<|qt (x_load1 T.na9 rfl (H236.ld 0 rfl 1 rfl))<|?_
       refine cl T.cf124 (rsv124 (t.extract i0 e) _) rfl fun _ _ ⟨er,rfl⟩=>⟨_,er,?_⟩
       refine nl<|k253 _ _<|cnd (p:=Rsv (t.extract i0 e)) rfl (fun h255=>?_) (fun h255=>?_)
       ·refine region<|qt (x_field (o:=0) T.fa71_1 rfl)<|?_
        refine st_s<|Est (v:=.string (ByteArray.mk #[])) H236 0 T.sz9 rfl rfl rfl rfl rfl rfl fun w256 H257=>nl<|kn249 _ _<|?_
        refine sr fun Q258 k259=>qt (x_loadA [.int .i64 (((kind (t.extract i0 e)):Nat):Int),.string (ByteArray.mk #[]),.int .i64 ((i0:Nat):Int),.int .i64 ((e:Nat):Int)] T.ag71 rfl (H257.lds 0 rfl 0 [.int .i64 (((kind (t.extract i0 e)):Nat):Int),.string (ByteArray.mk #[]),.int .i64 ((i0:Nat):Int),.int .i64 ((e:Nat):Int)] rfl))<|?_
        refine st_s<|Est (v:=.agg #[.int .i64 (((kind (t.extract i0 e)):Nat):Int),.string (ByteArray.mk #[]),.int .i64 ((i0:Nat):Int),.int .i64 ((e:Nat):Int)]) H257 1 T.sz71 rfl rfl rfl rfl rfl rfl fun w260 H261=>qt asg<|nl<|k259 _ _<|ret<|leaveCT (P:=Tryz.prog) (fn:=Tryz.f66) (t:=4) (u:=5) (T:=71) (b:=b3) (o:=0) (cs:=[.int .i64 (((kind (t.extract i0 e)):Nat):Int),.string (ByteArray.mk #[]),.int .i64 ((i0:Nat):Int),.int .i64 ((e:Nat):Int)]) (v:=.bool true) rfl T.ag71 rfl (H261.lds 1 rfl 0 [.int .i64 (((kind (t.extract i0 e)):Nat):Int),.string (ByteArray.mk #[]),.int .i64 ((i0:Nat):Int),.int .i64 ((e:Nat):Int)] rfl) rfl ?_
        exact ⟨by rw [sg_none (by omega) (by assumption) hs7,wd_yes (by omega) hn he hw0 (by assumption) (by assumption)];first | done | rfl,H261.x⟩
       ·refine skip<|kn249 _ _<|?_
        refine sr fun Q262 k263=>qt (x_loadA [.int .i64 (((kind (t.extract i0 e)):Nat):Int),.string (t.extract i0 e),.int .i64 ((i0:Nat):Int),.int .i64 ((e:Nat):Int)] T.ag71 rfl (H236.lds 0 rfl 0 [.int .i64 (((kind (t.extract i0 e)):Nat):Int),.string (t.extract i0 e),.int .i64 ((i0:Nat):Int),.int .i64 ((e:Nat):Int)] rfl))<|?_
        refine st_s<|Est (v:=.agg #[.int .i64 (((kind (t.extract i0 e)):Nat):Int),.string (t.extract i0 e),.int .i64 ((i0:Nat):Int),.int .i64 ((e:Nat):Int)]) H236 1 T.sz71 rfl rfl rfl rfl rfl rfl fun w264 H265=>qt asg<|nl<|k263 _ _<|ret<|leaveCT (P:=Tryz.prog) (fn:=Tryz.f66) (t:=4) (u:=5) (T:=71) (b:=b3) (o:=0) (cs:=[.int .i64 (((kind (t.extract i0 e)):Nat):Int),.string (t.extract i0 e),.int .i64 ((i0:Nat):Int),.int .i64 ((e:Nat):Int)]) (v:=.bool true) rfl T.ag71 rfl (H265.lds 1 rfl 0 [.int .i64 (((kind (t.extract i0 e)):Nat):Int),.string (t.extract i0 e),.int .i64 ((i0:Nat):Int),.int .i64 ((e:Nat):Int)] rfl) rfl ?_
        exact ⟨by rw [sg_none (by omega) (by assumption) hs7,wd_yes' (by omega) hn he hw0 (by assumption) (by assumption)];first | done | rfl,H265.x⟩
end Go.Proofs.YtljfgmedbjlkaaaGreat
