/- The question's reader in memory. -/
import Derived.Test.YtljfgmedbjlkaaaGreatQA
import Derived.Test.YtljfgmedbjlkaaaGreatV3
import Derived.Test.YtljfgmedbjlkaaaGreatQV
import Derived.Test.YtljfgmedbjlkaaaGreatProg
import Derived.Test.YtljfgmedbjlkaaaGreatQF
namespace Go.Proofs.YtljfgmedbjlkaaaGreat
open Go.RowKit Go.Eng Go.QP
theorem T.cf65:CF Tryz.prog 65:=fun _ _=>by kernel_rfl
theorem T.cf66:CF Tryz.prog 66:=fun _ _=>by kernel_rfl
theorem T.sl68:SL Tryz.prog 68 71 4 40 (.agg #[.int .i64 ((0:Nat):Int),.string ByteArray.empty,.int .i64 ((0:Nat):Int),.int .i64 ((0:Nat):Int)]):=sl_mk Tryz.underlying68 (by kernel_rfl) rfl (by decide)
theorem blank65z (t:ByteArray) (w0:World) (hs:t.size≤68719476736):Calls Tryz.prog 65 #[.string t,.int .i64 (0:Int)] w0 fun e w'=>e= .returned (.int .i64 ((blankP (bl t) false 0:Nat):Int))∧w0=w':=blank65 t 0 w0 hs (Nat.zero_le _)
theorem _root_.Go.Eng.Cells.of_eq {h:Array Obj} {b o:Nat} {u v:Value} (e:u=v) (hc:Cells h b o [u]):Cells h b o [v]:=e▸hc
theorem Tokens25 (t:ByteArray) (w0:World) (hs:t.size≤68719476736) :
  Calls Tryz.prog 25 #[.string t] w0 fun e w'=>∃ a c n,e= .returned (.tuple #[.slice a (toksOf t).1.length c,.agg (eK.enc (toksOf t).2.1).toArray,.int .i64 (((toksOf t).2.2:Nat):Int),.int .i64 n])∧Hp No w0 w' [cQ 71 eK a (toksOf t).1.length c (toksOf t).1]:=by
 refine enter Tryz.func25 rfl 79 Tryz.ntmps25 rfl<|?_
 refine sr fun Q1 k2=>qt asg<|?_
 refine st_e<|Eal (Hp.start No w0) T.zv71 fun b3 w4 H5 x6=>qt asg<|qt asg<|nl<|k2 _ _<|?_
 refine sr fun Q7 k8=>?_
 refine st_e<|Ebs (cs:=[]) (e:=71) H5 (fun _=>by kernel_rfl) fun b9 w10 H11 x12=>qt asg<|nl<|k8 _ _<|?_
 refine sr fun Q13 k14=>qt asg<|nl<|k14 _ _<|seqK fun Q15 kn16 kr17 ke18=>?_
 refine sr fun Q19 k20=>qt mv<|?_
 refine cl T.cf65 (blank65z t _ (by omega)) rfl fun _ _ ⟨er,rfl⟩=>⟨_,er,?_⟩
 refine qt asg<|nl<|k20 _ _<|blockK fun Q22 kn23 kr24 kx25 kb26=>?_
 refine loopK (α:=Nat × Nat × Int × (Option Addr) × Nat × Nat × (List Tk)) (fun x=>[(0,.string t),(3,.pointer (some ⟨b3,0,none⟩)),(6,.slice x.2.2.2.1 x.2.2.2.2.1 x.2.2.2.2.2.1),(7,.int .i64 x.2.2.1),(8,.int .i64 ((x.2.1:Nat):Int))]) (fun x w27=>Hp No w0 w27 [cB b3 71 [.int .i64 ((0:Nat):Int),.string ByteArray.empty,.int .i64 ((0:Nat):Int),.int .i64 ((0:Nat):Int)],cQ 71 eK x.2.2.2.1 x.2.2.2.2.1 x.2.2.2.2.2.1 x.2.2.2.2.2.2]∧TkI t (toksOf t) x.1 x.2.1 x.2.2.1 x.2.2.2.2.2.2∧x.2.2.2.2.2.2.length=x.2.2.2.2.1) (fun x=>x.1) ((t.size+1),(blankP (bl t) false 0),(-1),(some ⟨b9,0,none⟩),0,0,[]) ⟨rfl,rfl,rfl,rfl,rfl,trivial⟩ ?_ ?_
 ·refine ⟨((H11.noneQ 71 eK (some ⟨b9,0,none⟩)).pick [2,0] (by decide)),?_⟩
  try dsimp only
  exact ⟨TkI.start,rfl⟩
 ·rintro τ28 ⟨n,p,jt,a2,m2,c2,xs⟩ w29 ⟨hx30,⟨hT,hm⟩⟩
  try dsimp only at hT hm
  have hz31:=hx30.le
  intro Q32 kn33 kr34 ke35
  dsimp only at hx30 ⊢
  have hT1:=hT.1
  have hT3:=hT.2.2.1
  refine seqK fun Q36 kn37 kr38 ke39=>?_
  refine sr fun Q40 k41=>qt mv<|qt mv<|qt (x_lenS rfl Tryz.underlying9 rfl)<|qt (x_lssN rfl rfl)<|nl<|k41 _ _<|cnd (p:=p<t.size) rfl (fun h42=>?_) (fun h42=>?_)
  ·refine skip<|kn37 _ _<|seqK fun Q43 kn44 kr45 ke46=>blockK fun Q47 kn48 kr49 kx50 kb51=>?_
   refine sr fun Q52 k53=>qt mv<|qt mv<|?_
   refine cl T.cf66 (next66 t p _ (by omega) (by omega)) rfl fun _ w55 ⟨er,X54⟩=>⟨_,er,?_⟩
   have H56:=hx30.ext X54
   refine qt mv<|qt (x_extract rfl rfl)<|qt (x_extract rfl rfl)<|?_
   refine st_e<|Eal H56 T.zv71 fun b57 w58 H59 x60=>?_
   refine st_s<|Est (v:=.agg #[.int .i64 (((nextP ((bl t).drop p) p).1.k:Nat):Int),.string ((nextP ((bl t).drop p) p).1.s),.int .i64 (((nextP ((bl t).drop p) p).1.i:Nat):Int),.int .i64 (((nextP ((bl t).drop p) p).1.j:Nat):Int)]) H59 0 T.sz71 rfl rfl rfl rfl rfl rfl fun w61 H62=>qt asg<|nl<|k53 _ _<|?_
   refine seqLK (n:=79) (ds:=[]) (α:=Bool) (fun x=>[(0,.string t),(3,.pointer (some ⟨b3,0,none⟩)),(6,.slice a2 m2 c2),(7,.int .i64 jt),(8,.int .i64 ((p:Nat):Int)),(9,.pointer (some ⟨b57,0,none⟩)),(10,.bool ((nextP ((bl t).drop p) p).2)),(11,.bool x)]) (fun x w63=>Hp No w0 w63 [cB b57 71 [.int .i64 (((nextP ((bl t).drop p) p).1.k:Nat):Int),.string ((nextP ((bl t).drop p) p).1.s),.int .i64 (((nextP ((bl t).drop p) p).1.i:Nat):Int),.int .i64 (((nextP ((bl t).drop p) p).1.j:Nat):Int)],cB b3 71 [.int .i64 ((0:Nat):Int),.string ByteArray.empty,.int .i64 ((0:Nat):Int),.int .i64 ((0:Nat):Int)],cQ 71 eK a2 m2 c2 xs]∧x=decide (WordK (nextP ((bl t).drop p) p).1.k)) ?_ ?_
   ·intro Q64 kn65 kr66 ke67
    refine region<|qt (x_field (o:=0) T.fa71_0 rfl)<|qt (x_load1 T.na69 rfl (H62.ld 0 rfl 0 rfl))<|qt (x_gtrN (b:=0) rfl rfl)<|st_if (p:=0<((nextP ((bl t).drop p) p).1.k)) (x_move rfl) (fun h68=>?_) (fun h68=>?_)
    ·refine st_gq 3 37 rfl rfl (by decide)<|qt (x_field (o:=0) T.fa71_0 rfl)<|st_gq 3 37 rfl rfl (by decide)<|qt (x_load1 T.na69 rfl (H62.ld 0 rfl 0 rfl))<|st_gq 3 37 rfl rfl (by decide)<|qt (x_lssN (b:=8) rfl rfl)<|qt (pkT rfl)<|st_if (p:=((nextP ((bl t).drop p) p).1.k)<8) (x_move rfl) (fun h69=>?_) (fun h69=>?_)
     ·refine st_gq 8 42 rfl rfl (by decide)<|qt (x_field (o:=0) T.fa71_0 rfl)<|st_gq 8 42 rfl rfl (by decide)<|qt (x_load1 T.na69 rfl (H62.ld 0 rfl 0 rfl))<|st_gq 8 42 rfl rfl (by decide)<|qt (x_neqN (b:=4) rfl rfl)<|qt (pkT rfl)<|qt asg<|nl<|?_
      refine kn65 _ ((decide (((nextP ((bl t).drop p) p).1.k)≠4))) _ ⟨rfl,rfl,rfl,rfl,rfl,rfl,rfl,rfl,trivial⟩ ⟨H62,?_⟩
      try dsimp only
      first | exact (decide_eq_decide.2 (by omega)) | exact (decide_eq_false (by omega)).symm | exact (decide_eq_true (by omega)).symm
     ·refine st_gn 8 42 rfl rfl (by decide) rfl<|st_gn 8 42 rfl rfl (by decide) rfl<|st_gn 8 42 rfl rfl (by decide) rfl<|qt (pkF rfl)<|qt asg<|nl<|?_
      refine kn65 _ (false) _ ⟨rfl,rfl,rfl,rfl,rfl,rfl,rfl,rfl,trivial⟩ ⟨H62,?_⟩
      try dsimp only
      first | exact (decide_eq_decide.2 (by omega)) | exact (decide_eq_false (by omega)).symm | exact (decide_eq_true (by omega)).symm
    ·refine st_gn 3 37 rfl rfl (by decide) rfl<|st_gn 3 37 rfl rfl (by decide) rfl<|st_gn 3 37 rfl rfl (by decide) rfl<|qt (pkF rfl)<|qt mv<|st_gn 8 42 rfl rfl (by decide) rfl<|st_gn 8 42 rfl rfl (by decide) rfl<|st_gn 8 42 rfl rfl (by decide) rfl<|qt (pkF rfl)<|qt asg<|nl<|?_
     refine kn65 _ (false) _ ⟨rfl,rfl,rfl,rfl,rfl,rfl,rfl,rfl,trivial⟩ ⟨H62,?_⟩
     try dsimp only
     first | exact (decide_eq_decide.2 (by omega)) | exact (decide_eq_false (by omega)).symm | exact (decide_eq_true (by omega)).symm
   ·rintro τ70 wd w71 ⟨H72,hwd⟩
    try dsimp only at H72 hwd ⊢
    have hwp_:wd=true→WordK (nextP ((bl t).drop p) p).1.k:=fun h=>of_decide_eq_true (hwd.symm.trans h)
    have hwd_:¬ wd=true→¬ WordK (nextP ((bl t).drop p) p).1.k:=fun h h2=>h (hwd.trans (decide_eq_true h2))
    refine seqK fun Q73 kn74 kr75 ke76=>?_
    refine sr fun Q77 k78=>qt mv<|st_if (p:=wd=true) (mvB rfl) (fun h79=>?_) (fun h79=>?_)
    ·refine st_gq 1 48 rfl rfl (by decide)<|qt mv<|st_gq 1 48 rfl rfl (by decide)<|qt mv<|st_gq 1 48 rfl rfl (by decide)<|qt (x_eql rfl rfl)<|qt (pkT rfl)<|nl<|k78 _ _<|cnd (p:=jt=((p:Nat):Int)) rfl (fun h80=>?_) (fun h80=>?_)
     ·refine sr fun Q81 k82=>qt mv<|qt (v:=.agg #[.int .i64 ((0:Nat):Int),.string ByteArray.empty,.int .i64 ((0:Nat):Int),.int .i64 ((0:Nat):Int)]) (x_build (fun _=>by kernel_rfl))<|qt mv<|qt asg<|?_
      refine st_s<|Est (v:=.agg #[.int .i64 ((0:Nat):Int),.string ByteArray.empty,.int .i64 ((0:Nat):Int),.int .i64 ((0:Nat):Int)]) H72 1 T.sz71 rfl rfl rfl rfl rfl rfl fun w83 H84=>qt asg<|qt asg<|nl<|k82 _ _<|ret<|kr75 _ _<|kr49 _ _<|kr45 _ _<|kr34 _ _<|kr24 _ _<|kr17 _ _<|leave4 (P:=Tryz.prog) (fn:=Tryz.f25) (t:=2) (u:=3) (T:=71) (b:=b3) (o:=0) (s:=4) (r:=5) (cs:=[.int .i64 ((0:Nat):Int),.string ByteArray.empty,.int .i64 ((0:Nat):Int),.int .i64 ((0:Nat):Int)]) (v:=.slice a2 m2 c2) (v':=.int .i64 ((p:Nat):Int)) (v'':=.int .i64 ((11:Nat):Int)) rfl T.ag71 rfl rfl (H84.lds 1 rfl 0 [.int .i64 ((0:Nat):Int),.string ByteArray.empty,.int .i64 ((0:Nat):Int),.int .i64 ((0:Nat):Int)] rfl) rfl rfl ?_
      have hR:toksOf t=(xs,Tk0,p):=by first | exact (hT.end_ (by omega)).trans (by rw [show p=t.size by omega]) | exact hT.joint (by omega) (hwp_ (by assumption)) (by assumption) | exact hT.zero (by omega) (fun h=>by first | exact absurd h.1 (hwd_ (by first | assumption | exact Bool.eq_false_iff.1 (by assumption))) | exact absurd h.2 (by assumption)) (Bool.eq_false_iff.2 (by assumption)) (by assumption) | exact hT.open_ (by omega) (fun h=>by first | exact absurd h.1 (hwd_ (by first | assumption | exact Bool.eq_false_iff.1 (by assumption))) | exact absurd h.2 (by assumption)) (Bool.eq_false_iff.2 (by assumption)) (by assumption)
      exact ⟨_,_,_,by rw [hR];dsimp only;rw [hm],by rw [hR];dsimp only;rw [hm];exact (H84.pick [2] (by decide))⟩
     ·refine skip<|kn74 _ _<|seqK fun Q85 kn86 kr87 ke88=>?_
      refine sr fun Q89 k90=>qt mv<|qt (x_notBB rfl)<|nl<|k90 _ _<|cnd (p:=¬ ((nextP ((bl t).drop p) p).2=true)) rfl (fun h91=>?_) (fun h91=>?_)
      ·refine seqK fun Q92 kn93 kr94 ke95=>?_
       refine sr fun Q96 k97=>qt (x_field (o:=0) T.fa71_0 rfl)<|qt (x_load1 T.na69 rfl (H72.ld 0 rfl 0 rfl))<|qt (x_eqlN (b:=0) rfl rfl)<|nl<|k97 _ _<|cnd (p:=((nextP ((bl t).drop p) p).1.k)=0) rfl (fun h98=>?_) (fun h98=>?_)
       ·refine seqK fun Q99 kn100 kr101 ke102=>regionD1 [1] [0,1,2,3,5,6] (.one 0 (.one 1 (.one 2 (.one 3 (.one 4 (.one 5 (.one 6 .done))))))) (by kernel_rfl) (by kernel_rfl) fun w103 x104 s105=>?_
        have H106:=H72.ext x104
        have S107:Ext w103 w103:=Below.refl _ _
        refine d_q rfl rfl (fun _=>mv)<|d_l rfl rfl rfl (fun _ y108=>x_loadA [.int .i64 (((nextP ((bl t).drop p) p).1.k:Nat):Int),.string ((nextP ((bl t).drop p) p).1.s),.int .i64 (((nextP ((bl t).drop p) p).1.i:Nat):Int),.int .i64 (((nextP ((bl t).drop p) p).1.j:Nat):Int)] T.ag71 rfl ((H106.lds 0 rfl 0 [.int .i64 (((nextP ((bl t).drop p) p).1.k:Nat):Int),.string ((nextP ((bl t).drop p) p).1.s),.int .i64 (((nextP ((bl t).drop p) p).1.i:Nat):Int),.int .i64 (((nextP ((bl t).drop p) p).1.j:Nat):Int)] rfl).ext y108))<|d_q rfl rfl (fun _=>mv)<|d_q rfl rfl (fun _=>asg)<|d_e (by decide)<|d_s' rfl rfl<|Est (v:=.agg #[.int .i64 (((nextP ((bl t).drop p) p).1.k:Nat):Int),.string ((nextP ((bl t).drop p) p).1.s),.int .i64 (((nextP ((bl t).drop p) p).1.i:Nat):Int),.int .i64 (((nextP ((bl t).drop p) p).1.j:Nat):Int)]) H106 1 T.sz71 rfl rfl rfl rfl rfl rfl fun w109 H110=>⟨need_no (by kernel_rfl),?_⟩
        refine d_q rfl rfl (fun _=>asg)<|d_q rfl rfl (fun _=>asg)<|d_done<|kn100 _ _<|ret<|kr94 _ _<|kr87 _ _<|kr49 _ _<|kr45 _ _<|kr34 _ _<|kr24 _ _<|kr17 _ _<|leave4 (P:=Tryz.prog) (fn:=Tryz.f25) (t:=2) (u:=3) (T:=71) (b:=b3) (o:=0) (s:=4) (r:=5) (cs:=[.int .i64 (((nextP ((bl t).drop p) p).1.k:Nat):Int),.string ((nextP ((bl t).drop p) p).1.s),.int .i64 (((nextP ((bl t).drop p) p).1.i:Nat):Int),.int .i64 (((nextP ((bl t).drop p) p).1.j:Nat):Int)]) (v:=.slice a2 m2 c2) (v':=.int .i64 ((p:Nat):Int)) (v'':=.int .i64 ((11:Nat):Int)) rfl T.ag71 rfl rfl (H110.lds 1 rfl 0 [.int .i64 (((nextP ((bl t).drop p) p).1.k:Nat):Int),.string ((nextP ((bl t).drop p) p).1.s),.int .i64 (((nextP ((bl t).drop p) p).1.i:Nat):Int),.int .i64 (((nextP ((bl t).drop p) p).1.j:Nat):Int)] rfl) rfl rfl ?_
        have hR:toksOf t=(xs,(nextP ((bl t).drop p) p).1,p):=by first | exact (hT.end_ (by omega)).trans (by rw [show p=t.size by omega]) | exact hT.joint (by omega) (hwp_ (by assumption)) (by assumption) | exact hT.zero (by omega) (fun h=>by first | exact absurd h.1 (hwd_ (by first | assumption | exact Bool.eq_false_iff.1 (by assumption))) | exact absurd h.2 (by assumption)) (Bool.eq_false_iff.2 (by assumption)) (by assumption) | exact hT.open_ (by omega) (fun h=>by first | exact absurd h.1 (hwd_ (by first | assumption | exact Bool.eq_false_iff.1 (by assumption))) | exact absurd h.2 (by assumption)) (Bool.eq_false_iff.2 (by assumption)) (by assumption)
        exact ⟨_,_,_,by rw [hR];dsimp only;rw [hm],by rw [hR];dsimp only;rw [hm];exact (H110.pick [2] (by decide))⟩
       ·refine skip<|kn93 _ _<|seqK fun Q111 kn112 kr113 ke114=>regionD1 [] [0,2,4,6,7] (.one 0 (.one 2 (.one 4 (.two 1 (.two 3 (.one 5 (.one 6 (.one 7 .done))) 5 (.one 3 (.one 6 (.one 7 .done)))) 3 (.one 1 (.one 5 (.one 6 (.one 7 .done)))))))) (by kernel_rfl) (by kernel_rfl) fun w115 x116 s117=>?_
        have H118:=H72.ext x116
        have S119:Ext w115 w115:=Below.refl _ _
        refine d_q rfl rfl (fun _=>mv)<|d_q rfl rfl (fun _=>x_field (o:=0) T.fa71_3 rfl)<|d_q rfl rfl (fun _=>asg)<|d_two ?_ ?_
        ·refine id<|d_e' rfl rfl<|eff_ex (x_loadA [.int .i64 (((nextP ((bl t).drop p) p).1.k:Nat):Int),.string ((nextP ((bl t).drop p) p).1.s),.int .i64 (((nextP ((bl t).drop p) p).1.i:Nat):Int),.int .i64 (((nextP ((bl t).drop p) p).1.j:Nat):Int)] T.ag71 rfl (H118.lds 0 rfl 0 [.int .i64 (((nextP ((bl t).drop p) p).1.k:Nat):Int),.string ((nextP ((bl t).drop p) p).1.s),.int .i64 (((nextP ((bl t).drop p) p).1.i:Nat):Int),.int .i64 (((nextP ((bl t).drop p) p).1.j:Nat):Int)] rfl))<|⟨fun _=>S119,?_⟩
         refine d_two ?_ ?_
         ·refine id<|d_e' rfl rfl<|eff_ex (x_load1 T.na3 rfl (H118.ld 0 rfl 3 rfl))<|⟨fun _=>S119,?_⟩
          refine d_e (by decide)<|d_s' rfl rfl<|Est (v:=.agg #[.int .i64 (((nextP ((bl t).drop p) p).1.k:Nat):Int),.string ((nextP ((bl t).drop p) p).1.s),.int .i64 (((nextP ((bl t).drop p) p).1.i:Nat):Int),.int .i64 (((nextP ((bl t).drop p) p).1.j:Nat):Int)]) H118 1 T.sz71 rfl rfl rfl rfl rfl rfl fun w120 H121=>⟨need_no (by kernel_rfl),?_⟩
          refine d_q rfl rfl (fun _=>asg)<|d_q rfl rfl (fun _=>asg)<|d_done<|kn112 _ _<|ret<|kr87 _ _<|kr49 _ _<|kr45 _ _<|kr34 _ _<|kr24 _ _<|kr17 _ _<|leave4 (P:=Tryz.prog) (fn:=Tryz.f25) (t:=2) (u:=3) (T:=71) (b:=b3) (o:=0) (s:=4) (r:=5) (cs:=[.int .i64 (((nextP ((bl t).drop p) p).1.k:Nat):Int),.string ((nextP ((bl t).drop p) p).1.s),.int .i64 (((nextP ((bl t).drop p) p).1.i:Nat):Int),.int .i64 (((nextP ((bl t).drop p) p).1.j:Nat):Int)]) (v:=.slice a2 m2 c2) (v':=.int .i64 (((nextP ((bl t).drop p) p).1.j:Nat):Int)) (v'':=.int .i64 ((11:Nat):Int)) rfl T.ag71 rfl rfl (H121.lds 1 rfl 0 [.int .i64 (((nextP ((bl t).drop p) p).1.k:Nat):Int),.string ((nextP ((bl t).drop p) p).1.s),.int .i64 (((nextP ((bl t).drop p) p).1.i:Nat):Int),.int .i64 (((nextP ((bl t).drop p) p).1.j:Nat):Int)] rfl) rfl rfl ?_
          have hR:toksOf t=(xs,(nextP ((bl t).drop p) p).1,(nextP ((bl t).drop p) p).1.j):=by first | exact (hT.end_ (by omega)).trans (by rw [show p=t.size by omega]) | exact hT.joint (by omega) (hwp_ (by assumption)) (by assumption) | exact hT.zero (by omega) (fun h=>by first | exact absurd h.1 (hwd_ (by first | assumption | exact Bool.eq_false_iff.1 (by assumption))) | exact absurd h.2 (by assumption)) (Bool.eq_false_iff.2 (by assumption)) (by assumption) | exact hT.open_ (by omega) (fun h=>by first | exact absurd h.1 (hwd_ (by first | assumption | exact Bool.eq_false_iff.1 (by assumption))) | exact absurd h.2 (by assumption)) (Bool.eq_false_iff.2 (by assumption)) (by assumption)
          exact ⟨_,_,_,by rw [hR];dsimp only;rw [hm],by rw [hR];dsimp only;rw [hm];exact (H121.pick [2] (by decide))⟩
         ·refine id<|d_s' rfl rfl<|Est (v:=.agg #[.int .i64 (((nextP ((bl t).drop p) p).1.k:Nat):Int),.string ((nextP ((bl t).drop p) p).1.s),.int .i64 (((nextP ((bl t).drop p) p).1.i:Nat):Int),.int .i64 (((nextP ((bl t).drop p) p).1.j:Nat):Int)]) H118 1 T.sz71 rfl rfl rfl rfl rfl rfl fun w122 H123=>⟨need_no (by kernel_rfl),?_⟩
          refine d_e (by decide)<|d_e' rfl rfl<|eff_ex (x_load1 T.na3 rfl (H123.ld 0 rfl 3 rfl))<|⟨need_no (by kernel_rfl),?_⟩
          refine d_q rfl rfl (fun _=>asg)<|d_q rfl rfl (fun _=>asg)<|d_done<|kn112 _ _<|ret<|kr87 _ _<|kr49 _ _<|kr45 _ _<|kr34 _ _<|kr24 _ _<|kr17 _ _<|leave4 (P:=Tryz.prog) (fn:=Tryz.f25) (t:=2) (u:=3) (T:=71) (b:=b3) (o:=0) (s:=4) (r:=5) (cs:=[.int .i64 (((nextP ((bl t).drop p) p).1.k:Nat):Int),.string ((nextP ((bl t).drop p) p).1.s),.int .i64 (((nextP ((bl t).drop p) p).1.i:Nat):Int),.int .i64 (((nextP ((bl t).drop p) p).1.j:Nat):Int)]) (v:=.slice a2 m2 c2) (v':=.int .i64 (((nextP ((bl t).drop p) p).1.j:Nat):Int)) (v'':=.int .i64 ((11:Nat):Int)) rfl T.ag71 rfl rfl (H123.lds 1 rfl 0 [.int .i64 (((nextP ((bl t).drop p) p).1.k:Nat):Int),.string ((nextP ((bl t).drop p) p).1.s),.int .i64 (((nextP ((bl t).drop p) p).1.i:Nat):Int),.int .i64 (((nextP ((bl t).drop p) p).1.j:Nat):Int)] rfl) rfl rfl ?_
          have hR:toksOf t=(xs,(nextP ((bl t).drop p) p).1,(nextP ((bl t).drop p) p).1.j):=by first | exact (hT.end_ (by omega)).trans (by rw [show p=t.size by omega]) | exact hT.joint (by omega) (hwp_ (by assumption)) (by assumption) | exact hT.zero (by omega) (fun h=>by first | exact absurd h.1 (hwd_ (by first | assumption | exact Bool.eq_false_iff.1 (by assumption))) | exact absurd h.2 (by assumption)) (Bool.eq_false_iff.2 (by assumption)) (by assumption) | exact hT.open_ (by omega) (fun h=>by first | exact absurd h.1 (hwd_ (by first | assumption | exact Bool.eq_false_iff.1 (by assumption))) | exact absurd h.2 (by assumption)) (Bool.eq_false_iff.2 (by assumption)) (by assumption)
          exact ⟨_,_,_,by rw [hR];dsimp only;rw [hm],by rw [hR];dsimp only;rw [hm];exact (H123.pick [2] (by decide))⟩
        ·refine id<|d_e' rfl rfl<|eff_ex (x_load1 T.na3 rfl (H118.ld 0 rfl 3 rfl))<|⟨fun _=>S119,?_⟩
         refine d_e (by decide)<|d_e' rfl rfl<|eff_ex (x_loadA [.int .i64 (((nextP ((bl t).drop p) p).1.k:Nat):Int),.string ((nextP ((bl t).drop p) p).1.s),.int .i64 (((nextP ((bl t).drop p) p).1.i:Nat):Int),.int .i64 (((nextP ((bl t).drop p) p).1.j:Nat):Int)] T.ag71 rfl (H118.lds 0 rfl 0 [.int .i64 (((nextP ((bl t).drop p) p).1.k:Nat):Int),.string ((nextP ((bl t).drop p) p).1.s),.int .i64 (((nextP ((bl t).drop p) p).1.i:Nat):Int),.int .i64 (((nextP ((bl t).drop p) p).1.j:Nat):Int)] rfl))<|⟨fun _=>S119,?_⟩
         refine d_e (by decide)<|d_s' rfl rfl<|Est (v:=.agg #[.int .i64 (((nextP ((bl t).drop p) p).1.k:Nat):Int),.string ((nextP ((bl t).drop p) p).1.s),.int .i64 (((nextP ((bl t).drop p) p).1.i:Nat):Int),.int .i64 (((nextP ((bl t).drop p) p).1.j:Nat):Int)]) H118 1 T.sz71 rfl rfl rfl rfl rfl rfl fun w124 H125=>⟨need_no (by kernel_rfl),?_⟩
         refine d_q rfl rfl (fun _=>asg)<|d_q rfl rfl (fun _=>asg)<|d_done<|kn112 _ _<|ret<|kr87 _ _<|kr49 _ _<|kr45 _ _<|kr34 _ _<|kr24 _ _<|kr17 _ _<|leave4 (P:=Tryz.prog) (fn:=Tryz.f25) (t:=2) (u:=3) (T:=71) (b:=b3) (o:=0) (s:=4) (r:=5) (cs:=[.int .i64 (((nextP ((bl t).drop p) p).1.k:Nat):Int),.string ((nextP ((bl t).drop p) p).1.s),.int .i64 (((nextP ((bl t).drop p) p).1.i:Nat):Int),.int .i64 (((nextP ((bl t).drop p) p).1.j:Nat):Int)]) (v:=.slice a2 m2 c2) (v':=.int .i64 (((nextP ((bl t).drop p) p).1.j:Nat):Int)) (v'':=.int .i64 ((11:Nat):Int)) rfl T.ag71 rfl rfl (H125.lds 1 rfl 0 [.int .i64 (((nextP ((bl t).drop p) p).1.k:Nat):Int),.string ((nextP ((bl t).drop p) p).1.s),.int .i64 (((nextP ((bl t).drop p) p).1.i:Nat):Int),.int .i64 (((nextP ((bl t).drop p) p).1.j:Nat):Int)] rfl) rfl rfl ?_
         have hR:toksOf t=(xs,(nextP ((bl t).drop p) p).1,(nextP ((bl t).drop p) p).1.j):=by first | exact (hT.end_ (by omega)).trans (by rw [show p=t.size by omega]) | exact hT.joint (by omega) (hwp_ (by assumption)) (by assumption) | exact hT.zero (by omega) (fun h=>by first | exact absurd h.1 (hwd_ (by first | assumption | exact Bool.eq_false_iff.1 (by assumption))) | exact absurd h.2 (by assumption)) (Bool.eq_false_iff.2 (by assumption)) (by assumption) | exact hT.open_ (by omega) (fun h=>by first | exact absurd h.1 (hwd_ (by first | assumption | exact Bool.eq_false_iff.1 (by assumption))) | exact absurd h.2 (by assumption)) (Bool.eq_false_iff.2 (by assumption)) (by assumption)
         exact ⟨_,_,_,by rw [hR];dsimp only;rw [hm],by rw [hR];dsimp only;rw [hm];exact (H125.pick [2] (by decide))⟩
      ·refine skip<|kn86 _ _<|?_
       refine sr fun Q126 k127=>qt asg<|nl<|k127 _ _<|seqK fun Q128 kn129 kr130 ke131=>?_
       refine sr fun Q132 k133=>qt mv<|nl<|k133 _ _<|cndB (b:=wd) rfl (fun h134=>?_) (fun h134=>?_)
       ·refine region<|qt (x_field (o:=0) T.fa71_3 rfl)<|qt (x_load1 T.na3 rfl (H72.ld 0 rfl 3 rfl))<|qt asg<|nl<|kn129 _ _<|region<|qt mv<|qt (x_loadA [.int .i64 (((nextP ((bl t).drop p) p).1.k:Nat):Int),.string ((nextP ((bl t).drop p) p).1.s),.int .i64 (((nextP ((bl t).drop p) p).1.i:Nat):Int),.int .i64 (((nextP ((bl t).drop p) p).1.j:Nat):Int)] T.ag71 rfl (H72.lds 0 rfl 0 [.int .i64 (((nextP ((bl t).drop p) p).1.k:Nat):Int),.string ((nextP ((bl t).drop p) p).1.s),.int .i64 (((nextP ((bl t).drop p) p).1.i:Nat):Int),.int .i64 (((nextP ((bl t).drop p) p).1.j:Nat):Int)] rfl))<|?_
        refine st_e<|Ebs (cs:=[.int .i64 (((nextP ((bl t).drop p) p).1.k:Nat):Int),.string ((nextP ((bl t).drop p) p).1.s),.int .i64 (((nextP ((bl t).drop p) p).1.i:Nat):Int),.int .i64 (((nextP ((bl t).drop p) p).1.j:Nat):Int)]) (e:=71) H72 (fun _=>by kernel_rfl) fun b135 w136 H137 x138=>?_
        refine st_e<|EapQ H137 3 T.sl68 rfl rfl rfl (H137.lst (E:=eK) 0 rfl ((nextP ((bl t).drop p) p).1) rfl) (by omega) rfl rfl fun a139 c140 w141 H142=>qt asg<|nl<|kn48 _ _<|kn44 _ _<|region<|qt mv<|qt mv<|qt mv<|qt (x_lenSl rfl Tryz.underlying68 rfl)<|qt (subN (b:=1) rfl rfl)<|qt (x_index' T.sl68 rfl ((H142.srQ 3 rfl).addr (by omega)) rfl (by omega))<|qt (x_field (o:=(ao a139)+((m2+1)-1) * 4) T.fa71_3 rfl)<|?_
        have hlast:(el (xs++[(nextP ((bl t).drop p) p).1]) ((m2+1)-1)).j=(nextP ((bl t).drop p) p).1.j:=by rw [el_last (by omega)]
        refine qt (x_load1 T.na3 rfl ((Cells.of_eq (congrArg (fun z:Nat=>Value.int .i64 (z:Int)) hlast) (((H142.srQ 3 rfl).cell (i:=((m2+1)-1)) (by omega)).fld 3 rfl))))<|?_
        have hnl:=(next_le (t:=t) (i:=p) (by omega)).1
        refine cl T.cf65 (blank65 t ((nextP ((bl t).drop p) p).1.j) _ (by omega) (by omega)) rfl fun _ _ ⟨er,rfl⟩=>⟨_,er,?_⟩
        refine qt asg<|nl<|?_
        refine kn33 _ ((n-1),(blankP ((bl t).drop ((nextP ((bl t).drop p) p).1.j)) false ((nextP ((bl t).drop p) p).1.j)),(((nextP ((bl t).drop p) p).1.j:Nat):Int),a139,(m2+1),c140,(xs++[(nextP ((bl t).drop p) p).1])) _ ⟨rfl,rfl,rfl,rfl,rfl,trivial⟩ ⟨(H142.pick [2,3] (by decide)),?_⟩ ?_
        ·try dsimp only
         exact ⟨hT.go (by omega) (fun h=>by first | exact absurd h.1 (hwd_ (by first | assumption | exact Bool.eq_false_iff.1 (by assumption))) | exact absurd h.2 (by assumption)) (Decidable.of_not_not (by assumption)) rfl (by first | exact (if_pos (hwp_ (by assumption))).symm | exact (if_neg (hwd_ (by first | assumption | exact Bool.eq_false_iff.1 (by assumption)))).symm),by rw [List.length_append,hm];rfl⟩
        ·have:=hT.2.1
         dsimp only
         omega
       ·refine skip<|kn129 _ _<|region<|qt mv<|qt (x_loadA [.int .i64 (((nextP ((bl t).drop p) p).1.k:Nat):Int),.string ((nextP ((bl t).drop p) p).1.s),.int .i64 (((nextP ((bl t).drop p) p).1.i:Nat):Int),.int .i64 (((nextP ((bl t).drop p) p).1.j:Nat):Int)] T.ag71 rfl (H72.lds 0 rfl 0 [.int .i64 (((nextP ((bl t).drop p) p).1.k:Nat):Int),.string ((nextP ((bl t).drop p) p).1.s),.int .i64 (((nextP ((bl t).drop p) p).1.i:Nat):Int),.int .i64 (((nextP ((bl t).drop p) p).1.j:Nat):Int)] rfl))<|?_
        refine st_e<|Ebs (cs:=[.int .i64 (((nextP ((bl t).drop p) p).1.k:Nat):Int),.string ((nextP ((bl t).drop p) p).1.s),.int .i64 (((nextP ((bl t).drop p) p).1.i:Nat):Int),.int .i64 (((nextP ((bl t).drop p) p).1.j:Nat):Int)]) (e:=71) H72 (fun _=>by kernel_rfl) fun b144 w145 H146 x147=>?_
        refine st_e<|EapQ H146 3 T.sl68 rfl rfl rfl (H146.lst (E:=eK) 0 rfl ((nextP ((bl t).drop p) p).1) rfl) (by omega) rfl rfl fun a148 c149 w150 H151=>qt asg<|nl<|kn48 _ _<|kn44 _ _<|region<|qt mv<|qt mv<|qt mv<|qt (x_lenSl rfl Tryz.underlying68 rfl)<|qt (subN (b:=1) rfl rfl)<|qt (x_index' T.sl68 rfl ((H151.srQ 3 rfl).addr (by omega)) rfl (by omega))<|qt (x_field (o:=(ao a148)+((m2+1)-1) * 4) T.fa71_3 rfl)<|?_
        have hlast:(el (xs++[(nextP ((bl t).drop p) p).1]) ((m2+1)-1)).j=(nextP ((bl t).drop p) p).1.j:=by rw [el_last (by omega)]
        refine qt (x_load1 T.na3 rfl ((Cells.of_eq (congrArg (fun z:Nat=>Value.int .i64 (z:Int)) hlast) (((H151.srQ 3 rfl).cell (i:=((m2+1)-1)) (by omega)).fld 3 rfl))))<|?_
        have hnl:=(next_le (t:=t) (i:=p) (by omega)).1
        refine cl T.cf65 (blank65 t ((nextP ((bl t).drop p) p).1.j) _ (by omega) (by omega)) rfl fun _ _ ⟨er,rfl⟩=>⟨_,er,?_⟩
        refine qt asg<|nl<|?_
        refine kn33 _ ((n-1),(blankP ((bl t).drop ((nextP ((bl t).drop p) p).1.j)) false ((nextP ((bl t).drop p) p).1.j)),-1,a148,(m2+1),c149,(xs++[(nextP ((bl t).drop p) p).1])) _ ⟨rfl,rfl,rfl,rfl,rfl,trivial⟩ ⟨(H151.pick [2,3] (by decide)),?_⟩ ?_
        ·try dsimp only
         exact ⟨hT.go (by omega) (fun h=>by first | exact absurd h.1 (hwd_ (by first | assumption | exact Bool.eq_false_iff.1 (by assumption))) | exact absurd h.2 (by assumption)) (Decidable.of_not_not (by assumption)) rfl (by first | exact (if_pos (hwp_ (by assumption))).symm | exact (if_neg (hwd_ (by first | assumption | exact Bool.eq_false_iff.1 (by assumption)))).symm),by rw [List.length_append,hm];rfl⟩
        ·have:=hT.2.1
         dsimp only
         omega
    ·refine st_gn 1 48 rfl rfl (by decide) rfl<|st_gn 1 48 rfl rfl (by decide) rfl<|st_gn 1 48 rfl rfl (by decide) rfl<|qt (pkF rfl)<|nl<|k78 _ _<|cndF rfl<|skip<|kn74 _ _<|seqK fun Q153 kn154 kr155 ke156=>?_
     refine sr fun Q157 k158=>qt mv<|qt (x_notBB rfl)<|nl<|k158 _ _<|cnd (p:=¬ ((nextP ((bl t).drop p) p).2=true)) rfl (fun h159=>?_) (fun h159=>?_)
     ·refine seqK fun Q160 kn161 kr162 ke163=>?_
      refine sr fun Q164 k165=>qt (x_field (o:=0) T.fa71_0 rfl)<|qt (x_load1 T.na69 rfl (H72.ld 0 rfl 0 rfl))<|qt (x_eqlN (b:=0) rfl rfl)<|nl<|k165 _ _<|cnd (p:=((nextP ((bl t).drop p) p).1.k)=0) rfl (fun h166=>?_) (fun h166=>?_)
      ·refine seqK fun Q167 kn168 kr169 ke170=>regionD1 [1] [0,1,2,3,5,6] (.one 0 (.one 1 (.one 2 (.one 3 (.one 4 (.one 5 (.one 6 .done))))))) (by kernel_rfl) (by kernel_rfl) fun w171 x172 s173=>?_
       have H174:=H72.ext x172
       have S175:Ext w171 w171:=Below.refl _ _
       refine d_q rfl rfl (fun _=>mv)<|d_l rfl rfl rfl (fun _ y176=>x_loadA [.int .i64 (((nextP ((bl t).drop p) p).1.k:Nat):Int),.string ((nextP ((bl t).drop p) p).1.s),.int .i64 (((nextP ((bl t).drop p) p).1.i:Nat):Int),.int .i64 (((nextP ((bl t).drop p) p).1.j:Nat):Int)] T.ag71 rfl ((H174.lds 0 rfl 0 [.int .i64 (((nextP ((bl t).drop p) p).1.k:Nat):Int),.string ((nextP ((bl t).drop p) p).1.s),.int .i64 (((nextP ((bl t).drop p) p).1.i:Nat):Int),.int .i64 (((nextP ((bl t).drop p) p).1.j:Nat):Int)] rfl).ext y176))<|d_q rfl rfl (fun _=>mv)<|d_q rfl rfl (fun _=>asg)<|d_e (by decide)<|d_s' rfl rfl<|Est (v:=.agg #[.int .i64 (((nextP ((bl t).drop p) p).1.k:Nat):Int),.string ((nextP ((bl t).drop p) p).1.s),.int .i64 (((nextP ((bl t).drop p) p).1.i:Nat):Int),.int .i64 (((nextP ((bl t).drop p) p).1.j:Nat):Int)]) H174 1 T.sz71 rfl rfl rfl rfl rfl rfl fun w177 H178=>⟨need_no (by kernel_rfl),?_⟩
       refine d_q rfl rfl (fun _=>asg)<|d_q rfl rfl (fun _=>asg)<|d_done<|kn168 _ _<|ret<|kr162 _ _<|kr155 _ _<|kr49 _ _<|kr45 _ _<|kr34 _ _<|kr24 _ _<|kr17 _ _<|leave4 (P:=Tryz.prog) (fn:=Tryz.f25) (t:=2) (u:=3) (T:=71) (b:=b3) (o:=0) (s:=4) (r:=5) (cs:=[.int .i64 (((nextP ((bl t).drop p) p).1.k:Nat):Int),.string ((nextP ((bl t).drop p) p).1.s),.int .i64 (((nextP ((bl t).drop p) p).1.i:Nat):Int),.int .i64 (((nextP ((bl t).drop p) p).1.j:Nat):Int)]) (v:=.slice a2 m2 c2) (v':=.int .i64 ((p:Nat):Int)) (v'':=.int .i64 ((11:Nat):Int)) rfl T.ag71 rfl rfl (H178.lds 1 rfl 0 [.int .i64 (((nextP ((bl t).drop p) p).1.k:Nat):Int),.string ((nextP ((bl t).drop p) p).1.s),.int .i64 (((nextP ((bl t).drop p) p).1.i:Nat):Int),.int .i64 (((nextP ((bl t).drop p) p).1.j:Nat):Int)] rfl) rfl rfl ?_
       have hR:toksOf t=(xs,(nextP ((bl t).drop p) p).1,p):=by first | exact (hT.end_ (by omega)).trans (by rw [show p=t.size by omega]) | exact hT.joint (by omega) (hwp_ (by assumption)) (by assumption) | exact hT.zero (by omega) (fun h=>by first | exact absurd h.1 (hwd_ (by first | assumption | exact Bool.eq_false_iff.1 (by assumption))) | exact absurd h.2 (by assumption)) (Bool.eq_false_iff.2 (by assumption)) (by assumption) | exact hT.open_ (by omega) (fun h=>by first | exact absurd h.1 (hwd_ (by first | assumption | exact Bool.eq_false_iff.1 (by assumption))) | exact absurd h.2 (by assumption)) (Bool.eq_false_iff.2 (by assumption)) (by assumption)
       exact ⟨_,_,_,by rw [hR];dsimp only;rw [hm],by rw [hR];dsimp only;rw [hm];exact (H178.pick [2] (by decide))⟩
      ·refine skip<|kn161 _ _<|seqK fun Q179 kn180 kr181 ke182=>regionD1 [] [0,2,4,6,7] (.one 0 (.one 2 (.one 4 (.two 1 (.two 3 (.one 5 (.one 6 (.one 7 .done))) 5 (.one 3 (.one 6 (.one 7 .done)))) 3 (.one 1 (.one 5 (.one 6 (.one 7 .done)))))))) (by kernel_rfl) (by kernel_rfl) fun w183 x184 s185=>?_
       have H186:=H72.ext x184
       have S187:Ext w183 w183:=Below.refl _ _
       refine d_q rfl rfl (fun _=>mv)<|d_q rfl rfl (fun _=>x_field (o:=0) T.fa71_3 rfl)<|d_q rfl rfl (fun _=>asg)<|d_two ?_ ?_
       ·refine id<|d_e' rfl rfl<|eff_ex (x_loadA [.int .i64 (((nextP ((bl t).drop p) p).1.k:Nat):Int),.string ((nextP ((bl t).drop p) p).1.s),.int .i64 (((nextP ((bl t).drop p) p).1.i:Nat):Int),.int .i64 (((nextP ((bl t).drop p) p).1.j:Nat):Int)] T.ag71 rfl (H186.lds 0 rfl 0 [.int .i64 (((nextP ((bl t).drop p) p).1.k:Nat):Int),.string ((nextP ((bl t).drop p) p).1.s),.int .i64 (((nextP ((bl t).drop p) p).1.i:Nat):Int),.int .i64 (((nextP ((bl t).drop p) p).1.j:Nat):Int)] rfl))<|⟨fun _=>S187,?_⟩
        refine d_two ?_ ?_
        ·refine id<|d_e' rfl rfl<|eff_ex (x_load1 T.na3 rfl (H186.ld 0 rfl 3 rfl))<|⟨fun _=>S187,?_⟩
         refine d_e (by decide)<|d_s' rfl rfl<|Est (v:=.agg #[.int .i64 (((nextP ((bl t).drop p) p).1.k:Nat):Int),.string ((nextP ((bl t).drop p) p).1.s),.int .i64 (((nextP ((bl t).drop p) p).1.i:Nat):Int),.int .i64 (((nextP ((bl t).drop p) p).1.j:Nat):Int)]) H186 1 T.sz71 rfl rfl rfl rfl rfl rfl fun w188 H189=>⟨need_no (by kernel_rfl),?_⟩
         refine d_q rfl rfl (fun _=>asg)<|d_q rfl rfl (fun _=>asg)<|d_done<|kn180 _ _<|ret<|kr155 _ _<|kr49 _ _<|kr45 _ _<|kr34 _ _<|kr24 _ _<|kr17 _ _<|leave4 (P:=Tryz.prog) (fn:=Tryz.f25) (t:=2) (u:=3) (T:=71) (b:=b3) (o:=0) (s:=4) (r:=5) (cs:=[.int .i64 (((nextP ((bl t).drop p) p).1.k:Nat):Int),.string ((nextP ((bl t).drop p) p).1.s),.int .i64 (((nextP ((bl t).drop p) p).1.i:Nat):Int),.int .i64 (((nextP ((bl t).drop p) p).1.j:Nat):Int)]) (v:=.slice a2 m2 c2) (v':=.int .i64 (((nextP ((bl t).drop p) p).1.j:Nat):Int)) (v'':=.int .i64 ((11:Nat):Int)) rfl T.ag71 rfl rfl (H189.lds 1 rfl 0 [.int .i64 (((nextP ((bl t).drop p) p).1.k:Nat):Int),.string ((nextP ((bl t).drop p) p).1.s),.int .i64 (((nextP ((bl t).drop p) p).1.i:Nat):Int),.int .i64 (((nextP ((bl t).drop p) p).1.j:Nat):Int)] rfl) rfl rfl ?_
         have hR:toksOf t=(xs,(nextP ((bl t).drop p) p).1,(nextP ((bl t).drop p) p).1.j):=by first | exact (hT.end_ (by omega)).trans (by rw [show p=t.size by omega]) | exact hT.joint (by omega) (hwp_ (by assumption)) (by assumption) | exact hT.zero (by omega) (fun h=>by first | exact absurd h.1 (hwd_ (by first | assumption | exact Bool.eq_false_iff.1 (by assumption))) | exact absurd h.2 (by assumption)) (Bool.eq_false_iff.2 (by assumption)) (by assumption) | exact hT.open_ (by omega) (fun h=>by first | exact absurd h.1 (hwd_ (by first | assumption | exact Bool.eq_false_iff.1 (by assumption))) | exact absurd h.2 (by assumption)) (Bool.eq_false_iff.2 (by assumption)) (by assumption)
         exact ⟨_,_,_,by rw [hR];dsimp only;rw [hm],by rw [hR];dsimp only;rw [hm];exact (H189.pick [2] (by decide))⟩
        ·refine id<|d_s' rfl rfl<|Est (v:=.agg #[.int .i64 (((nextP ((bl t).drop p) p).1.k:Nat):Int),.string ((nextP ((bl t).drop p) p).1.s),.int .i64 (((nextP ((bl t).drop p) p).1.i:Nat):Int),.int .i64 (((nextP ((bl t).drop p) p).1.j:Nat):Int)]) H186 1 T.sz71 rfl rfl rfl rfl rfl rfl fun w190 H191=>⟨need_no (by kernel_rfl),?_⟩
         refine d_e (by decide)<|d_e' rfl rfl<|eff_ex (x_load1 T.na3 rfl (H191.ld 0 rfl 3 rfl))<|⟨need_no (by kernel_rfl),?_⟩
         refine d_q rfl rfl (fun _=>asg)<|d_q rfl rfl (fun _=>asg)<|d_done<|kn180 _ _<|ret<|kr155 _ _<|kr49 _ _<|kr45 _ _<|kr34 _ _<|kr24 _ _<|kr17 _ _<|leave4 (P:=Tryz.prog) (fn:=Tryz.f25) (t:=2) (u:=3) (T:=71) (b:=b3) (o:=0) (s:=4) (r:=5) (cs:=[.int .i64 (((nextP ((bl t).drop p) p).1.k:Nat):Int),.string ((nextP ((bl t).drop p) p).1.s),.int .i64 (((nextP ((bl t).drop p) p).1.i:Nat):Int),.int .i64 (((nextP ((bl t).drop p) p).1.j:Nat):Int)]) (v:=.slice a2 m2 c2) (v':=.int .i64 (((nextP ((bl t).drop p) p).1.j:Nat):Int)) (v'':=.int .i64 ((11:Nat):Int)) rfl T.ag71 rfl rfl (H191.lds 1 rfl 0 [.int .i64 (((nextP ((bl t).drop p) p).1.k:Nat):Int),.string ((nextP ((bl t).drop p) p).1.s),.int .i64 (((nextP ((bl t).drop p) p).1.i:Nat):Int),.int .i64 (((nextP ((bl t).drop p) p).1.j:Nat):Int)] rfl) rfl rfl ?_
         have hR:toksOf t=(xs,(nextP ((bl t).drop p) p).1,(nextP ((bl t).drop p) p).1.j):=by first | exact (hT.end_ (by omega)).trans (by rw [show p=t.size by omega]) | exact hT.joint (by omega) (hwp_ (by assumption)) (by assumption) | exact hT.zero (by omega) (fun h=>by first | exact absurd h.1 (hwd_ (by first | assumption | exact Bool.eq_false_iff.1 (by assumption))) | exact absurd h.2 (by assumption)) (Bool.eq_false_iff.2 (by assumption)) (by assumption) | exact hT.open_ (by omega) (fun h=>by first | exact absurd h.1 (hwd_ (by first | assumption | exact Bool.eq_false_iff.1 (by assumption))) | exact absurd h.2 (by assumption)) (Bool.eq_false_iff.2 (by assumption)) (by assumption)
         exact ⟨_,_,_,by rw [hR];dsimp only;rw [hm],by rw [hR];dsimp only;rw [hm];exact (H191.pick [2] (by decide))⟩
       ·refine id<|d_e' rfl rfl<|eff_ex (x_load1 T.na3 rfl (H186.ld 0 rfl 3 rfl))<|⟨fun _=>S187,?_⟩
        refine d_e (by decide)<|d_e' rfl rfl<|eff_ex (x_loadA [.int .i64 (((nextP ((bl t).drop p) p).1.k:Nat):Int),.string ((nextP ((bl t).drop p) p).1.s),.int .i64 (((nextP ((bl t).drop p) p).1.i:Nat):Int),.int .i64 (((nextP ((bl t).drop p) p).1.j:Nat):Int)] T.ag71 rfl (H186.lds 0 rfl 0 [.int .i64 (((nextP ((bl t).drop p) p).1.k:Nat):Int),.string ((nextP ((bl t).drop p) p).1.s),.int .i64 (((nextP ((bl t).drop p) p).1.i:Nat):Int),.int .i64 (((nextP ((bl t).drop p) p).1.j:Nat):Int)] rfl))<|⟨fun _=>S187,?_⟩
        refine d_e (by decide)<|d_s' rfl rfl<|Est (v:=.agg #[.int .i64 (((nextP ((bl t).drop p) p).1.k:Nat):Int),.string ((nextP ((bl t).drop p) p).1.s),.int .i64 (((nextP ((bl t).drop p) p).1.i:Nat):Int),.int .i64 (((nextP ((bl t).drop p) p).1.j:Nat):Int)]) H186 1 T.sz71 rfl rfl rfl rfl rfl rfl fun w192 H193=>⟨need_no (by kernel_rfl),?_⟩
        refine d_q rfl rfl (fun _=>asg)<|d_q rfl rfl (fun _=>asg)<|d_done<|kn180 _ _<|ret<|kr155 _ _<|kr49 _ _<|kr45 _ _<|kr34 _ _<|kr24 _ _<|kr17 _ _<|leave4 (P:=Tryz.prog) (fn:=Tryz.f25) (t:=2) (u:=3) (T:=71) (b:=b3) (o:=0) (s:=4) (r:=5) (cs:=[.int .i64 (((nextP ((bl t).drop p) p).1.k:Nat):Int),.string ((nextP ((bl t).drop p) p).1.s),.int .i64 (((nextP ((bl t).drop p) p).1.i:Nat):Int),.int .i64 (((nextP ((bl t).drop p) p).1.j:Nat):Int)]) (v:=.slice a2 m2 c2) (v':=.int .i64 (((nextP ((bl t).drop p) p).1.j:Nat):Int)) (v'':=.int .i64 ((11:Nat):Int)) rfl T.ag71 rfl rfl (H193.lds 1 rfl 0 [.int .i64 (((nextP ((bl t).drop p) p).1.k:Nat):Int),.string ((nextP ((bl t).drop p) p).1.s),.int .i64 (((nextP ((bl t).drop p) p).1.i:Nat):Int),.int .i64 (((nextP ((bl t).drop p) p).1.j:Nat):Int)] rfl) rfl rfl ?_
        have hR:toksOf t=(xs,(nextP ((bl t).drop p) p).1,(nextP ((bl t).drop p) p).1.j):=by first | exact (hT.end_ (by omega)).trans (by rw [show p=t.size by omega]) | exact hT.joint (by omega) (hwp_ (by assumption)) (by assumption) | exact hT.zero (by omega) (fun h=>by first | exact absurd h.1 (hwd_ (by first | assumption | exact Bool.eq_false_iff.1 (by assumption))) | exact absurd h.2 (by assumption)) (Bool.eq_false_iff.2 (by assumption)) (by assumption) | exact hT.open_ (by omega) (fun h=>by first | exact absurd h.1 (hwd_ (by first | assumption | exact Bool.eq_false_iff.1 (by assumption))) | exact absurd h.2 (by assumption)) (Bool.eq_false_iff.2 (by assumption)) (by assumption)
        exact ⟨_,_,_,by rw [hR];dsimp only;rw [hm],by rw [hR];dsimp only;rw [hm];exact (H193.pick [2] (by decide))⟩
     ·refine skip<|kn154 _ _<|?_
      refine sr fun Q194 k195=>qt asg<|nl<|k195 _ _<|seqK fun Q196 kn197 kr198 ke199=>?_
      refine sr fun Q200 k201=>qt mv<|nl<|k201 _ _<|cndB (b:=wd) rfl (fun h202=>?_) (fun h202=>?_)
      ·refine region<|qt (x_field (o:=0) T.fa71_3 rfl)<|qt (x_load1 T.na3 rfl (H72.ld 0 rfl 3 rfl))<|qt asg<|nl<|kn197 _ _<|region<|qt mv<|qt (x_loadA [.int .i64 (((nextP ((bl t).drop p) p).1.k:Nat):Int),.string ((nextP ((bl t).drop p) p).1.s),.int .i64 (((nextP ((bl t).drop p) p).1.i:Nat):Int),.int .i64 (((nextP ((bl t).drop p) p).1.j:Nat):Int)] T.ag71 rfl (H72.lds 0 rfl 0 [.int .i64 (((nextP ((bl t).drop p) p).1.k:Nat):Int),.string ((nextP ((bl t).drop p) p).1.s),.int .i64 (((nextP ((bl t).drop p) p).1.i:Nat):Int),.int .i64 (((nextP ((bl t).drop p) p).1.j:Nat):Int)] rfl))<|?_
       refine st_e<|Ebs (cs:=[.int .i64 (((nextP ((bl t).drop p) p).1.k:Nat):Int),.string ((nextP ((bl t).drop p) p).1.s),.int .i64 (((nextP ((bl t).drop p) p).1.i:Nat):Int),.int .i64 (((nextP ((bl t).drop p) p).1.j:Nat):Int)]) (e:=71) H72 (fun _=>by kernel_rfl) fun b203 w204 H205 x206=>?_
       refine st_e<|EapQ H205 3 T.sl68 rfl rfl rfl (H205.lst (E:=eK) 0 rfl ((nextP ((bl t).drop p) p).1) rfl) (by omega) rfl rfl fun a207 c208 w209 H210=>qt asg<|nl<|kn48 _ _<|kn44 _ _<|region<|qt mv<|qt mv<|qt mv<|qt (x_lenSl rfl Tryz.underlying68 rfl)<|qt (subN (b:=1) rfl rfl)<|qt (x_index' T.sl68 rfl ((H210.srQ 3 rfl).addr (by omega)) rfl (by omega))<|qt (x_field (o:=(ao a207)+((m2+1)-1) * 4) T.fa71_3 rfl)<|?_
       have hlast:(el (xs++[(nextP ((bl t).drop p) p).1]) ((m2+1)-1)).j=(nextP ((bl t).drop p) p).1.j:=by rw [el_last (by omega)]
       refine qt (x_load1 T.na3 rfl ((Cells.of_eq (congrArg (fun z:Nat=>Value.int .i64 (z:Int)) hlast) (((H210.srQ 3 rfl).cell (i:=((m2+1)-1)) (by omega)).fld 3 rfl))))<|?_
       have hnl:=(next_le (t:=t) (i:=p) (by omega)).1
       refine cl T.cf65 (blank65 t ((nextP ((bl t).drop p) p).1.j) _ (by omega) (by omega)) rfl fun _ _ ⟨er,rfl⟩=>⟨_,er,?_⟩
       refine qt asg<|nl<|?_
       refine kn33 _ ((n-1),(blankP ((bl t).drop ((nextP ((bl t).drop p) p).1.j)) false ((nextP ((bl t).drop p) p).1.j)),(((nextP ((bl t).drop p) p).1.j:Nat):Int),a207,(m2+1),c208,(xs++[(nextP ((bl t).drop p) p).1])) _ ⟨rfl,rfl,rfl,rfl,rfl,trivial⟩ ⟨(H210.pick [2,3] (by decide)),?_⟩ ?_
       ·try dsimp only
        exact ⟨hT.go (by omega) (fun h=>by first | exact absurd h.1 (hwd_ (by first | assumption | exact Bool.eq_false_iff.1 (by assumption))) | exact absurd h.2 (by assumption)) (Decidable.of_not_not (by assumption)) rfl (by first | exact (if_pos (hwp_ (by assumption))).symm | exact (if_neg (hwd_ (by first | assumption | exact Bool.eq_false_iff.1 (by assumption)))).symm),by rw [List.length_append,hm];rfl⟩
       ·have:=hT.2.1
        dsimp only
        omega
      ·refine skip<|kn197 _ _<|region<|qt mv<|qt (x_loadA [.int .i64 (((nextP ((bl t).drop p) p).1.k:Nat):Int),.string ((nextP ((bl t).drop p) p).1.s),.int .i64 (((nextP ((bl t).drop p) p).1.i:Nat):Int),.int .i64 (((nextP ((bl t).drop p) p).1.j:Nat):Int)] T.ag71 rfl (H72.lds 0 rfl 0 [.int .i64 (((nextP ((bl t).drop p) p).1.k:Nat):Int),.string ((nextP ((bl t).drop p) p).1.s),.int .i64 (((nextP ((bl t).drop p) p).1.i:Nat):Int),.int .i64 (((nextP ((bl t).drop p) p).1.j:Nat):Int)] rfl))<|?_
       refine st_e<|Ebs (cs:=[.int .i64 (((nextP ((bl t).drop p) p).1.k:Nat):Int),.string ((nextP ((bl t).drop p) p).1.s),.int .i64 (((nextP ((bl t).drop p) p).1.i:Nat):Int),.int .i64 (((nextP ((bl t).drop p) p).1.j:Nat):Int)]) (e:=71) H72 (fun _=>by kernel_rfl) fun b212 w213 H214 x215=>?_
       refine st_e<|EapQ H214 3 T.sl68 rfl rfl rfl (H214.lst (E:=eK) 0 rfl ((nextP ((bl t).drop p) p).1) rfl) (by omega) rfl rfl fun a216 c217 w218 H219=>qt asg<|nl<|kn48 _ _<|kn44 _ _<|region<|qt mv<|qt mv<|qt mv<|qt (x_lenSl rfl Tryz.underlying68 rfl)<|qt (subN (b:=1) rfl rfl)<|qt (x_index' T.sl68 rfl ((H219.srQ 3 rfl).addr (by omega)) rfl (by omega))<|qt (x_field (o:=(ao a216)+((m2+1)-1) * 4) T.fa71_3 rfl)<|?_
       have hlast:(el (xs++[(nextP ((bl t).drop p) p).1]) ((m2+1)-1)).j=(nextP ((bl t).drop p) p).1.j:=by rw [el_last (by omega)]
       refine qt (x_load1 T.na3 rfl ((Cells.of_eq (congrArg (fun z:Nat=>Value.int .i64 (z:Int)) hlast) (((H219.srQ 3 rfl).cell (i:=((m2+1)-1)) (by omega)).fld 3 rfl))))<|?_
       have hnl:=(next_le (t:=t) (i:=p) (by omega)).1
       refine cl T.cf65 (blank65 t ((nextP ((bl t).drop p) p).1.j) _ (by omega) (by omega)) rfl fun _ _ ⟨er,rfl⟩=>⟨_,er,?_⟩
       refine qt asg<|nl<|?_
       refine kn33 _ ((n-1),(blankP ((bl t).drop ((nextP ((bl t).drop p) p).1.j)) false ((nextP ((bl t).drop p) p).1.j)),-1,a216,(m2+1),c217,(xs++[(nextP ((bl t).drop p) p).1])) _ ⟨rfl,rfl,rfl,rfl,rfl,trivial⟩ ⟨(H219.pick [2,3] (by decide)),?_⟩ ?_
       ·try dsimp only
        exact ⟨hT.go (by omega) (fun h=>by first | exact absurd h.1 (hwd_ (by first | assumption | exact Bool.eq_false_iff.1 (by assumption))) | exact absurd h.2 (by assumption)) (Decidable.of_not_not (by assumption)) rfl (by first | exact (if_pos (hwp_ (by assumption))).symm | exact (if_neg (hwd_ (by first | assumption | exact Bool.eq_false_iff.1 (by assumption)))).symm),by rw [List.length_append,hm];rfl⟩
       ·have:=hT.2.1
        dsimp only
        omega
  ·refine exit<|ke39 _ _ _<|ke35 _ _ _<|kb26 _ _<|kn16 _ _<|?_
   refine sr fun Q221 k222=>qt mv<|qt (v:=.agg #[.int .i64 ((0:Nat):Int),.string ByteArray.empty,.int .i64 ((0:Nat):Int),.int .i64 ((0:Nat):Int)]) (x_build (fun _=>by kernel_rfl))<|qt mv<|qt (x_lenS rfl Tryz.underlying9 rfl)<|qt asg<|?_
   refine st_s<|Est (v:=.agg #[.int .i64 ((0:Nat):Int),.string ByteArray.empty,.int .i64 ((0:Nat):Int),.int .i64 ((0:Nat):Int)]) hx30 0 T.sz71 rfl rfl rfl rfl rfl rfl fun w223 H224=>qt asg<|qt asg<|nl<|k222 _ _<|ret<|leave4 (P:=Tryz.prog) (fn:=Tryz.f25) (t:=2) (u:=3) (T:=71) (b:=b3) (o:=0) (s:=4) (r:=5) (cs:=[.int .i64 ((0:Nat):Int),.string ByteArray.empty,.int .i64 ((0:Nat):Int),.int .i64 ((0:Nat):Int)]) (v:=.slice a2 m2 c2) (v':=.int .i64 ((t.size:Nat):Int)) (v'':=.int .i64 ((0:Nat):Int)) rfl T.ag71 rfl rfl (H224.lds 0 rfl 0 [.int .i64 ((0:Nat):Int),.string ByteArray.empty,.int .i64 ((0:Nat):Int),.int .i64 ((0:Nat):Int)] rfl) rfl rfl ?_
   have hR:toksOf t=(xs,Tk0,t.size):=by first | exact (hT.end_ (by omega)).trans (by rw [show p=t.size by omega]) | exact hT.joint (by omega) (hwp_ (by assumption)) (by assumption) | exact hT.zero (by omega) (fun h=>by first | exact absurd h.1 (hwd_ (by first | assumption | exact Bool.eq_false_iff.1 (by assumption))) | exact absurd h.2 (by assumption)) (Bool.eq_false_iff.2 (by assumption)) (by assumption) | exact hT.open_ (by omega) (fun h=>by first | exact absurd h.1 (hwd_ (by first | assumption | exact Bool.eq_false_iff.1 (by assumption))) | exact absurd h.2 (by assumption)) (Bool.eq_false_iff.2 (by assumption)) (by assumption)
   exact ⟨_,_,_,by rw [hR];dsimp only;rw [hm],by rw [hR];dsimp only;rw [hm];exact (H224.pick [1] (by decide))⟩
end Go.Proofs.YtljfgmedbjlkaaaGreat
namespace Go.Proofs.YtljfgmedbjlkaaaGreat
open Go.RowKit Go.Eng Go.QP
/-- a literal, and where its terms lie -/
abbrev Rw:=Qlit × (Option Addr × Nat)
abbrev eL:En Rw:=⟨fun x=>[.int .i64 x.1.kind,.string x.1.pred,.slice x.2.1 x.1.args.length x.2.2,.bool (decide (x.1.left.1=true)),.string x.1.left.2,.bool (decide (x.1.right.1=true)),.string x.1.right.2],7,fun _=>rfl,by decide,fun _=>rfl⟩
def pL (x:Rw):Ch:=cQ 35 eT x.2.1 x.1.args.length x.2.2 x.1.args
/-- a reader -/
structure RM where
 rows:List Rw
 aq:Option Addr
 cq:Nat
 at_:Nat
 now:Rw
def RM.rs (x:RM):RS:=⟨x.rows.map (·.1),x.at_,x.now.1⟩
def rcells (x:RM):List Value:=[.slice x.aq x.rows.length x.cq,.int .i64 ((x.at_:Nat):Int),.int .i64 x.now.1.kind,.string x.now.1.pred,.slice x.now.2.1 x.now.1.args.length x.now.2.2,.bool (decide (x.now.1.left.1=true)),.string x.now.1.left.2,.bool (decide (x.now.1.right.1=true)),.string x.now.1.right.2]
def RMem (b:Nat) (x:RM):List Ch:=[cB b 77 (rcells x),cQ 37 eL x.aq x.rows.length x.cq x.rows,pL x.now,cF x.rows.length fun k=>pL (el x.rows k)]
theorem takeS_len {r r':RS} {k:Nat} {s:ByteArray} (h:takeS r k s=some r'):r'.q.length≤r.q.length+1∧r'.now.args.length≤r.now.args.length+1:=by
 unfold takeS at h
 have hz:(Qlit0).args.length=0:=rfl
 split at h
 ·split at h
  ·cases h;simp
  split at h
  ·cases h;simp
  ·cases ht:termT k s with
   | none=>rw [ht] at h;cases h
   | some x=>rw [ht] at h;cases h;simp
 split at h
 ·split at h
  ·cases h;simp
  ·cases h
 split at h
 ·split at h
  ·cases h;simp
  split at h
  ·cases h;simp
  split at h
  ·cases h;unfold endsS;split
   ·simp [doneS]
   split
   ·simp [doneS]
   ·simp
  ·cases h
 split at h
 ·cases ht:termT k s with
  | none=>rw [ht] at h;cases h
  | some x=>rw [ht] at h;cases h;simp
 split at h
 ·split at h
  ·cases h;simp
  split at h
  ·cases h;simp [doneS]
  ·cases h
 split at h
 ·split at h
  ·cases h;simp
  ·cases h
 split at h
 ·cases ht:termT k s with
  | none=>rw [ht] at h;cases h
  | some x=>rw [ht] at h;cases h;simp [doneS]
 ·split at h
  ·cases h;simp
  ·cases h
section
variable {S:Nat→Prop} {w0 w:World}
/-- a row's one list, pushed on the family -/
theorem _root_.Go.Eng.Hp.push1G {L:List Ch} {c:Ch} {n i:Nat} {α:Type} [Inhabited α] {p:α→Ch} {xs:List α} {u:α} (H:Hp S w0 w (c::L)) (hi:L[i]?=some (cF n fun k=>p (el xs k))) (hl:xs.length=n) (hu:p u=c):Hp S w0 w (L.set i (cF (n+1) fun k=>p (el (xs++[u]) k))):=by
 have H1:=Hp.fpush H i hi
 have hlt:i<L.length:=by
  rcases Nat.lt_or_ge i L.length with h | h
  ·exact h
  ·rw [List.getElem?_eq_none h] at hi;cases hi
 have H2:=Hp.fcongr (g:=fun k=>p (el (xs++[u]) k)) H1 i (by rw [List.getElem?_set_self hlt]) fun j hj=>by
  by_cases h:j=n
  ·subst h
   rw [ins_here,← hu]
   congr 1
   unfold el
   rw [List.getD_eq_getElem?_getD,← hl,List.getElem?_append_right (Nat.le_refl _),Nat.sub_self]
   rfl
  ·rw [ins_there h]
   unfold el
   rw [List.getD_eq_getElem?_getD,List.getD_eq_getElem?_getD,List.getElem?_append_left (by omega)]
 rwa [List.set_set] at H2
theorem RMem.mk' {b m ma at_:Nat} {kind:Int} {rows:List Rw} {a aa:Option Addr} {c ca:Nat} {pred:ByteArray} {args:List Tm} {lf rt:Tm} (hm:m=rows.length) (hma:ma=args.length)
  (H:Hp S w0 w [cB b 77 [.slice a m c,.int .i64 ((at_:Nat):Int),.int .i64 kind,.string pred,.slice aa ma ca,.bool (decide (lf.1=true)),.string lf.2,.bool (decide (rt.1=true)),.string rt.2],cQ 37 eL a m c rows,cQ 35 eT aa ma ca args,cF m fun k=>pL (el rows k)]) :
  Hp S w0 w (RMem b ⟨rows,a,c,at_,(⟨kind,pred,args,lf,rt⟩,(aa,ca))⟩):=by
 subst hm hma;exact H
theorem RMem.loop0 {b:Nat} {c d:Ch} (H:Hp S w0 w [c,d,cB b 77 [.slice none 0 0,.int .i64 ((0:Nat):Int),.int .i64 ((0:Nat):Int),.string ByteArray.empty,.slice none 0 0,.bool false,.string ByteArray.empty,.bool false,.string ByteArray.empty],cQ 37 eL none 0 0 [],cQ 35 eT none 0 0 [],cF 0 fun k=>pL (el ([]:List Rw) k)]) :
  Hp S w0 w (c::d::RMem b ⟨[],none,0,0,(⟨0,ByteArray.empty,[],Tm0,Tm0⟩,(none,0))⟩):=H
end
section
variable {x x':RM} {k:Nat} {s:ByteArray}
theorem s0_not (h:x.at_=0) (hk:k=7) (e:x'.rs=⟨x.rs.q,1,{ x.rs.now with kind:=2 }⟩):takeS x.rs k s=some x'.rs:=by
 rw [e];unfold takeS;rw [if_pos (show x.rs.at_=0 from h),if_pos hk]
theorem s0_name (h:x.at_=0) (h7:¬ k=7) (hk:k=1) (e:x'.rs=⟨x.rs.q,2,{ x.rs.now with pred:=s }⟩):takeS x.rs k s=some x'.rs:=by
 rw [e];unfold takeS;rw [if_pos (show x.rs.at_=0 from h),if_neg h7,if_pos hk]
theorem some_of (ht:(termT k s).isSome=true):termT k s=some ((termT k s).getD Tm0):=by
 cases h:termT k s with
 | none=>rw [h] at ht;cases ht
 | some y=>rfl
theorem none_of (ht:(termT k s).isSome=false):termT k s=none:=by
 cases h:termT k s with
 | none=>rfl
 | some y=>rw [h] at ht;cases ht
theorem s0_term (h:x.at_=0) (h7:¬ k=7) (h1:¬ k=1) (ht:(termT k s).isSome=true) (e:x'.rs=⟨x.rs.q,6,⟨3,ByteArray.empty,[],(termT k s).getD Tm0,Tm0⟩⟩):takeS x.rs k s=some x'.rs:=by
 rw [e];unfold takeS;rw [if_pos (show x.rs.at_=0 from h),if_neg h7,if_neg h1,some_of ht];rfl
theorem s0_none (h:x.at_=0) (h7:¬ k=7) (h1:¬ k=1) (ht:(termT k s).isSome=false):takeS x.rs k s=none:=by
 unfold takeS;rw [if_pos (show x.rs.at_=0 from h),if_neg h7,if_neg h1,none_of ht];rfl
theorem s1_name (h:x.at_=1) (hk:¬ k≠1) (e:x'.rs=⟨x.rs.q,3,{ x.rs.now with pred:=s }⟩):takeS x.rs k s=some x'.rs:=by
 rw [e];unfold takeS;rw [if_neg (show ¬ x.rs.at_=0 by rw [show x.rs.at_=1 from h];decide),if_pos (show x.rs.at_=1 from h),if_pos (Decidable.of_not_not hk)]
theorem s1_none (h:x.at_=1) (hk:k≠1):takeS x.rs k s=none:=by
 unfold takeS;rw [if_neg (show ¬ x.rs.at_=0 by rw [show x.rs.at_=1 from h];decide),if_pos (show x.rs.at_=1 from h),if_neg hk]
theorem s2_open (h:x.at_=2) (hk:k=8) (e:x'.rs=⟨x.rs.q,4,{ x.rs.now with kind:=1 }⟩):takeS x.rs k s=some x'.rs:=by
 rw [e];unfold takeS;rw [if_neg (show ¬ x.rs.at_=0 by rw [show x.rs.at_=2 from h];decide),if_neg (show ¬ x.rs.at_=1 by rw [show x.rs.at_=2 from h];decide),if_pos (show x.rs.at_=2∨x.rs.at_=3 from .inl h),if_pos hk,if_pos (show x.rs.at_=2 from h)]
theorem s2_comma (h:x.at_=2) (h8:¬ k=8) (hu:¬ k=14) (hk:k=10) (hl:x.rows.length+1<256) {y:RM} (hy:y.rs=endsS x.rs) (e:x'.rs={ y.rs with at_:=0 }):takeS x.rs k s=some x'.rs:=by
 rw [e];unfold takeS;rw [if_neg (show ¬ x.rs.at_=0 by rw [show x.rs.at_=2 from h];decide),if_neg (show ¬ x.rs.at_=1 by rw [show x.rs.at_=2 from h];decide),if_pos (show x.rs.at_=2∨x.rs.at_=3 from .inl h),if_neg h8,if_neg (show ¬ (k=14∧x.rs.at_=2) from fun hh=>hu hh.1),if_pos (show k=10∧x.rs.q.length+1<256 from ⟨hk,by show (x.rows.map _).length+1<256;rw [List.length_map];exact hl⟩),hy]
theorem s2_none (h:x.at_=2) (h8:¬ k=8) (hu:¬ k=14) (hk:¬ (k=10∧x.rows.length+1<256)):takeS x.rs k s=none:=by
 unfold takeS;rw [if_neg (show ¬ x.rs.at_=0 by rw [show x.rs.at_=2 from h];decide),if_neg (show ¬ x.rs.at_=1 by rw [show x.rs.at_=2 from h];decide),if_pos (show x.rs.at_=2∨x.rs.at_=3 from .inl h),if_neg h8,if_neg (show ¬ (k=14∧x.rs.at_=2) from fun hh=>hu hh.1),if_neg (show ¬ (k=10∧x.rs.q.length+1<256) from fun hh=>hk ⟨hh.1,by have h2:=hh.2;rw [show x.rs.q.length=x.rows.length from List.length_map ..] at h2;exact h2⟩)]
theorem s3_open (h:x.at_=3) (hk:k=8) (e:x'.rs=⟨x.rs.q,4,{ x.rs.now with kind:=x.rs.now.kind }⟩):takeS x.rs k s=some x'.rs:=by
 rw [e];unfold takeS;rw [if_neg (show ¬ x.rs.at_=0 by rw [show x.rs.at_=3 from h];decide),if_neg (show ¬ x.rs.at_=1 by rw [show x.rs.at_=3 from h];decide),if_pos (show x.rs.at_=2∨x.rs.at_=3 from .inr h),if_pos hk,if_neg (show ¬ x.rs.at_=2 by rw [show x.rs.at_=3 from h];decide)]
theorem s3_comma (h:x.at_=3) (h8:¬ k=8) (hk:k=10) (hl:x.rows.length+1<256) {y:RM} (hy:y.rs=endsS x.rs) (e:x'.rs={ y.rs with at_:=0 }):takeS x.rs k s=some x'.rs:=by
 rw [e];unfold takeS;rw [if_neg (show ¬ x.rs.at_=0 by rw [show x.rs.at_=3 from h];decide),if_neg (show ¬ x.rs.at_=1 by rw [show x.rs.at_=3 from h];decide),if_pos (show x.rs.at_=2∨x.rs.at_=3 from .inr h),if_neg h8,if_neg (show ¬ (k=14∧x.rs.at_=2) from fun hh=>by have h1:=hh.2;rw [show x.rs.at_=3 from h] at h1;cases h1),if_pos (show k=10∧x.rs.q.length+1<256 from ⟨hk,by show (x.rows.map _).length+1<256;rw [List.length_map];exact hl⟩),hy]
theorem s3_none (h:x.at_=3) (h8:¬ k=8) (hk:¬ (k=10∧x.rows.length+1<256)):takeS x.rs k s=none:=by
 unfold takeS;rw [if_neg (show ¬ x.rs.at_=0 by rw [show x.rs.at_=3 from h];decide),if_neg (show ¬ x.rs.at_=1 by rw [show x.rs.at_=3 from h];decide),if_pos (show x.rs.at_=2∨x.rs.at_=3 from .inr h),if_neg h8,if_neg (show ¬ (k=14∧x.rs.at_=2) from fun hh=>by have h1:=hh.2;rw [show x.rs.at_=3 from h] at h1;cases h1),if_neg (show ¬ (k=10∧x.rs.q.length+1<256) from fun hh=>hk ⟨hh.1,by have h2:=hh.2;rw [show x.rs.q.length=x.rows.length from List.length_map ..] at h2;exact h2⟩)]
theorem s2_unl (h:x.at_=2) (h8:¬ k=8) (hu:k=14) (e:x'.rs=⟨x.rs.q,7,⟨3,ByteArray.empty,[],(false,x.rs.now.pred),Tm0⟩⟩):takeS x.rs k s=some x'.rs:=by
 rw [e];unfold takeS;rw [if_neg (show ¬ x.rs.at_=0 by rw [show x.rs.at_=2 from h];decide),if_neg (show ¬ x.rs.at_=1 by rw [show x.rs.at_=2 from h];decide),if_pos (show x.rs.at_=2∨x.rs.at_=3 from .inl h),if_neg h8,if_pos (show k=14∧x.rs.at_=2 from ⟨hu,h⟩)]
theorem s4_term (h:x.at_=4) (ht:(termT k s).isSome=true) (e:x'.rs=⟨x.rs.q,5,{ x.rs.now with args:=x.rs.now.args++[(termT k s).getD Tm0] }⟩):takeS x.rs k s=some x'.rs:=by
 rw [e];unfold takeS;rw [if_neg (show ¬ x.rs.at_=0 by rw [show x.rs.at_=4 from h];decide),if_neg (show ¬ x.rs.at_=1 by rw [show x.rs.at_=4 from h];decide),if_neg (show ¬ (x.rs.at_=2∨x.rs.at_=3) by rw [show x.rs.at_=4 from h];decide),if_pos (show x.rs.at_=4 from h),some_of ht];rfl
theorem s4_none (h:x.at_=4) (ht:(termT k s).isSome=false):takeS x.rs k s=none:=by
 unfold takeS;rw [if_neg (show ¬ x.rs.at_=0 by rw [show x.rs.at_=4 from h];decide),if_neg (show ¬ x.rs.at_=1 by rw [show x.rs.at_=4 from h];decide),if_neg (show ¬ (x.rs.at_=2∨x.rs.at_=3) by rw [show x.rs.at_=4 from h];decide),if_pos (show x.rs.at_=4 from h),none_of ht];rfl
theorem s5_comma (h:x.at_=5) (hk:k=10) (hl:x.now.1.args.length<16) (e:x'.rs=⟨x.rs.q,4,x.rs.now⟩):takeS x.rs k s=some x'.rs:=by
 rw [e];unfold takeS;rw [if_neg (show ¬ x.rs.at_=0 by rw [show x.rs.at_=5 from h];decide),if_neg (show ¬ x.rs.at_=1 by rw [show x.rs.at_=5 from h];decide),if_neg (show ¬ (x.rs.at_=2∨x.rs.at_=3) by rw [show x.rs.at_=5 from h];decide),if_neg (show ¬ x.rs.at_=4 by rw [show x.rs.at_=5 from h];decide),if_pos (show x.rs.at_=5 from h),if_pos (show k=10∧x.rs.now.args.length<16 from ⟨hk,hl⟩)]
theorem s5_close (h:x.at_=5) (hk:k=9) (e:x'.rs=doneS x.rs):takeS x.rs k s=some x'.rs:=by
 rw [e];unfold takeS;rw [if_neg (show ¬ x.rs.at_=0 by rw [show x.rs.at_=5 from h];decide),if_neg (show ¬ x.rs.at_=1 by rw [show x.rs.at_=5 from h];decide),if_neg (show ¬ (x.rs.at_=2∨x.rs.at_=3) by rw [show x.rs.at_=5 from h];decide),if_neg (show ¬ x.rs.at_=4 by rw [show x.rs.at_=5 from h];decide),if_pos (show x.rs.at_=5 from h),if_neg (show ¬ (k=10∧x.rs.now.args.length<16) from fun hh=>by rw [hk] at hh;cases hh.1),if_pos hk]
theorem s5_none (h:x.at_=5) (hk:¬ (k=10∧x.now.1.args.length<16)) (h9:¬ k=9):takeS x.rs k s=none:=by
 unfold takeS;rw [if_neg (show ¬ x.rs.at_=0 by rw [show x.rs.at_=5 from h];decide),if_neg (show ¬ x.rs.at_=1 by rw [show x.rs.at_=5 from h];decide),if_neg (show ¬ (x.rs.at_=2∨x.rs.at_=3) by rw [show x.rs.at_=5 from h];decide),if_neg (show ¬ x.rs.at_=4 by rw [show x.rs.at_=5 from h];decide),if_pos (show x.rs.at_=5 from h),if_neg (show ¬ (k=10∧x.rs.now.args.length<16) from hk),if_neg h9]
theorem s6_unl (h:x.at_=6) (hk:¬ k≠14) (e:x'.rs=⟨x.rs.q,7,x.rs.now⟩):takeS x.rs k s=some x'.rs:=by
 rw [e];unfold takeS;rw [if_neg (show ¬ x.rs.at_=0 by rw [show x.rs.at_=6 from h];decide),if_neg (show ¬ x.rs.at_=1 by rw [show x.rs.at_=6 from h];decide),if_neg (show ¬ (x.rs.at_=2∨x.rs.at_=3) by rw [show x.rs.at_=6 from h];decide),if_neg (show ¬ x.rs.at_=4 by rw [show x.rs.at_=6 from h];decide),if_neg (show ¬ x.rs.at_=5 by rw [show x.rs.at_=6 from h];decide),if_pos (show x.rs.at_=6 from h),if_pos (Decidable.of_not_not hk)]
theorem s6_none (h:x.at_=6) (hk:k≠14):takeS x.rs k s=none:=by
 unfold takeS;rw [if_neg (show ¬ x.rs.at_=0 by rw [show x.rs.at_=6 from h];decide),if_neg (show ¬ x.rs.at_=1 by rw [show x.rs.at_=6 from h];decide),if_neg (show ¬ (x.rs.at_=2∨x.rs.at_=3) by rw [show x.rs.at_=6 from h];decide),if_neg (show ¬ x.rs.at_=4 by rw [show x.rs.at_=6 from h];decide),if_neg (show ¬ x.rs.at_=5 by rw [show x.rs.at_=6 from h];decide),if_pos (show x.rs.at_=6 from h),if_neg hk]
theorem s7_term (h:x.at_=7) (ht:(termT k s).isSome=true) (e:x'.rs=doneS ⟨x.rs.q,7,{ x.rs.now with right:=(termT k s).getD Tm0 }⟩):takeS x.rs k s=some x'.rs:=by
 rw [e];unfold takeS;rw [if_neg (show ¬ x.rs.at_=0 by rw [show x.rs.at_=7 from h];decide),if_neg (show ¬ x.rs.at_=1 by rw [show x.rs.at_=7 from h];decide),if_neg (show ¬ (x.rs.at_=2∨x.rs.at_=3) by rw [show x.rs.at_=7 from h];decide),if_neg (show ¬ x.rs.at_=4 by rw [show x.rs.at_=7 from h];decide),if_neg (show ¬ x.rs.at_=5 by rw [show x.rs.at_=7 from h];decide),if_neg (show ¬ x.rs.at_=6 by rw [show x.rs.at_=7 from h];decide),if_pos (show x.rs.at_=7 from h),some_of ht];rfl
theorem s7_none (h:x.at_=7) (ht:(termT k s).isSome=false):takeS x.rs k s=none:=by
 unfold takeS;rw [if_neg (show ¬ x.rs.at_=0 by rw [show x.rs.at_=7 from h];decide),if_neg (show ¬ x.rs.at_=1 by rw [show x.rs.at_=7 from h];decide),if_neg (show ¬ (x.rs.at_=2∨x.rs.at_=3) by rw [show x.rs.at_=7 from h];decide),if_neg (show ¬ x.rs.at_=4 by rw [show x.rs.at_=7 from h];decide),if_neg (show ¬ x.rs.at_=5 by rw [show x.rs.at_=7 from h];decide),if_neg (show ¬ x.rs.at_=6 by rw [show x.rs.at_=7 from h];decide),if_pos (show x.rs.at_=7 from h),none_of ht];rfl
theorem s8_comma (h:¬ x.at_=0∧¬ x.at_=1∧¬ x.at_=2∧¬ x.at_=3∧¬ x.at_=4∧¬ x.at_=5∧¬ x.at_=6∧¬ x.at_=7) (hk:k=10) (hl:x.rows.length<256) (e:x'.rs=⟨x.rs.q,0,x.rs.now⟩):takeS x.rs k s=some x'.rs:=by
 rw [e];unfold takeS;rw [if_neg (show ¬ x.rs.at_=0 from h.1),if_neg (show ¬ x.rs.at_=1 from h.2.1),if_neg (show ¬ (x.rs.at_=2∨x.rs.at_=3) from fun hh=>hh.elim h.2.2.1 h.2.2.2.1),if_neg (show ¬ x.rs.at_=4 from h.2.2.2.2.1),if_neg (show ¬ x.rs.at_=5 from h.2.2.2.2.2.1),if_neg (show ¬ x.rs.at_=6 from h.2.2.2.2.2.2.1),if_neg (show ¬ x.rs.at_=7 from h.2.2.2.2.2.2.2),if_pos (show k=10∧x.rs.q.length<256 from ⟨hk,by show (x.rows.map _).length<256;rw [List.length_map];exact hl⟩)]
theorem s8_none (h:¬ x.at_=0∧¬ x.at_=1∧¬ x.at_=2∧¬ x.at_=3∧¬ x.at_=4∧¬ x.at_=5∧¬ x.at_=6∧¬ x.at_=7) (hk:¬ (k=10∧x.rows.length<256)):takeS x.rs k s=none:=by
 unfold takeS;rw [if_neg (show ¬ x.rs.at_=0 from h.1),if_neg (show ¬ x.rs.at_=1 from h.2.1),if_neg (show ¬ (x.rs.at_=2∨x.rs.at_=3) from fun hh=>hh.elim h.2.2.1 h.2.2.2.1),if_neg (show ¬ x.rs.at_=4 from h.2.2.2.2.1),if_neg (show ¬ x.rs.at_=5 from h.2.2.2.2.2.1),if_neg (show ¬ x.rs.at_=6 from h.2.2.2.2.2.2.1),if_neg (show ¬ x.rs.at_=7 from h.2.2.2.2.2.2.2),if_neg (show ¬ (k=10∧x.rs.q.length<256) from fun hh=>hk ⟨hh.1,by have h2:=hh.2;rw [show x.rs.q.length=x.rows.length from List.length_map ..] at h2;exact h2⟩)]
end
end Go.Proofs.YtljfgmedbjlkaaaGreat
