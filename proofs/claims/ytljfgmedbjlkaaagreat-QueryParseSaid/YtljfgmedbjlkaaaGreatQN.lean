/- A part of the engine: steps over the model. Over any program. -/
import Derived.Test.YtljfgmedbjlkaaaGreatQA
import Derived.Test.YtljfgmedbjlkaaaGreatV3
import Derived.Test.YtljfgmedbjlkaaaGreatQI
import Derived.Test.YtljfgmedbjlkaaaGreatQV
import Derived.Test.YtljfgmedbjlkaaaGreatProg
import Derived.Test.YtljfgmedbjlkaaaGreatQJ
namespace Go.Proofs.YtljfgmedbjlkaaaGreat
open Go.RowKit Go.Eng Go.QP
end Go.Proofs.YtljfgmedbjlkaaaGreat
namespace Go.Proofs.YtljfgmedbjlkaaaGreat
open Go.RowKit Go.Eng Go.QP
theorem T.cf126:CF Tryz.prog 126:=fun _ _=>by kernel_rfl
theorem T.cf70:CF Tryz.prog 70:=fun _ _=>by kernel_rfl
theorem T.cf30:CF Tryz.prog 30:=fun _ _=>by kernel_rfl
theorem pairE {x y:Tm}:(decide (x.1=true),x.2)=(decide (y.1=true),y.2)↔x=y:=by
 obtain ⟨v,s⟩:=x
 obtain ⟨u,t⟩:=y
 cases v <;> cases u <;> simp
theorem ext_el {α:Type} [Inhabited α] {xs ys:List α} (h:xs.length=ys.length) (hj:∀ j,j<xs.length→el xs j=el ys j):xs=ys:=by
 refine List.ext_getElem h fun j h1 h2=>?_
 have:=hj j h1
 rwa [el_eq h1,el_eq h2] at this
theorem map_fst_iff {xs ys:List Rw}:xs.map (·.1)=ys.map (·.1)↔xs.length=ys.length∧∀ j,j<xs.length→(el xs j).1=(el ys j).1:=by
 constructor
 ·intro h
  have hl:xs.length=ys.length:=by have:=congrArg List.length h;simpa using this
  refine ⟨hl,fun j hj=>?_⟩
  have:=congrArg (fun l=>l[j]?) h
  simp only [List.getElem?_map,el_get? hj,el_get? (show j<ys.length by omega),Option.map_some] at this
  injection this
 ·rintro ⟨h1,h2⟩
  refine List.ext_getElem (by simp [h1]) fun j h3 h4=>?_
  simp only [List.length_map] at h3 h4
  have:=h2 j h3
  rw [el_eq h3,el_eq h4] at this
  simpa using this
theorem lit_iff {z y:Qlit}:z=y↔z.kind=y.kind∧(z.pred=y.pred∧z.args=y.args)∧z.left=y.left∧z.right=y.right:=by
 obtain ⟨a,b,c,d,e⟩:=z
 obtain ⟨a',b',c',d',e'⟩:=y
 simp [and_assoc]
theorem SameTerms126 (a b:Option Addr) (c d:Nat) (xs ys:List Tm) (w0:World) (hs:Srm eT w0.heap a xs.length c xs) (hs2:Srm eT w0.heap b ys.length d ys) :
  Calls Tryz.prog 126 #[.slice a xs.length c,.slice b ys.length d] w0 fun e w'=>∃ r:Bool,e= .returned (.bool r)∧(r=true↔xs=ys)∧Ext w0 w':=by
 have hc:=hs.cap
 refine enter Tryz.func126 rfl 26 Tryz.ntmps126 rfl<|?_
 refine sr fun Q1 k2=>qt asg<|nl<|k2 _ _<|seqK fun Q3 kn4 kr5 ke6=>?_
 refine sr fun Q7 k8=>qt mv<|qt (x_lenSl rfl Tryz.underlying30 rfl)<|qt mv<|qt (x_lenSl rfl Tryz.underlying30 rfl)<|qt (x_neqN rfl rfl)<|nl<|k8 _ _<|cnd (p:=xs.length≠ys.length) rfl (fun h9=>?_) (fun h9=>?_)
 ·refine sr fun Q10 k11=>qt asg<|nl<|k11 _ _<|ret<|kr5 _ _<|leave1 (P:=Tryz.prog) (fn:=Tryz.f126) (t:=4) (v:=.bool false) rfl rfl<|?_
  exact ⟨_,rfl,⟨fun h=>(by cases h),fun h=>(by subst h;first | exact absurd rfl (by assumption) | (have hz:=pairE.not.1 h9;exact absurd rfl hz))⟩,(Hp.start No w0).x⟩
 ·refine skip<|kn4 _ _<|seqK fun Q12 kn13 kr14 ke15=>?_
  refine sr fun Q16 k17=>qt asg<|nl<|k17 _ _<|blockK fun Q18 kn19 kr20 kx21 kb22=>?_
  refine loopK (α:=Nat) (fun x=>[(0,.slice a xs.length c),(1,.slice b ys.length d),(5,.int .i64 ((x:Nat):Int))]) (fun x w23=>Hp No w0 w23 []∧x≤xs.length∧∀ j,j<x→el xs j=el ys j) (fun x=>xs.length-x) (0) ⟨rfl,rfl,rfl,trivial⟩ ?_ ?_
  ·refine ⟨(Hp.start No w0),?_⟩
   try dsimp only
   exact ⟨Nat.zero_le _,fun j h=>absurd h (Nat.not_lt_zero _)⟩
  ·rintro τ24 i w25 ⟨hx26,⟨hi,hg⟩⟩
   try dsimp only at hi hg
   have hz27:=hx26.le
   intro Q28 kn29 kr30 ke31
   refine seqK fun Q32 kn33 kr34 ke35=>?_
   refine sr fun Q36 k37=>qt mv<|qt mv<|qt (x_lenSl rfl Tryz.underlying30 rfl)<|qt (x_lssN rfl rfl)<|nl<|k37 _ _<|cnd (p:=i<xs.length) rfl (fun h38=>?_) (fun h38=>?_)
   ·refine skip<|kn33 _ _<|seqK fun Q39 kn40 kr41 ke42=>blockK fun Q43 kn44 kr45 kx46 kb47=>seqK fun Q48 kn49 kr50 ke51=>regionD1 [3,7] [0,1,2,3,4,5,6,7,8] (.one 0 (.one 1 (.one 2 (.one 3 (.one 4 (.one 5 (.one 6 (.one 7 (.one 8 .done))))))))) (by kernel_rfl) (by kernel_rfl) fun w52 x53 s54=>?_
    have H55:=hx26.ext x53
    have S56:Ext w52 w52:=Below.refl _ _
    refine d_q rfl rfl (fun _=>mv)<|d_q rfl rfl (fun _=>mv)<|d_q rfl rfl (fun _=>x_index' T.sl30 rfl ((hs.ext H55.x).addr (by omega)) rfl (by omega))<|d_l rfl rfl rfl (fun _ y57=>x_loadA [.bool (decide ((el xs i).1=true)),.string ((el xs i).2)] T.ag35 rfl (((hs.ext H55.x).cell (i:=i) (by omega)).ext y57))<|d_q rfl rfl (fun _=>mv)<|d_q rfl rfl (fun _=>mv)<|d_q rfl rfl (fun _=>x_index' T.sl30 rfl ((hs2.ext H55.x).addr (by omega)) rfl (by omega))<|d_l rfl rfl rfl (fun _ y58=>x_loadA [.bool (decide ((el ys i).1=true)),.string ((el ys i).2)] T.ag35 rfl (((hs2.ext H55.x).cell (i:=i) (by omega)).ext y58))<|d_q rfl rfl (fun _=>x_neqT' T.eqT35 rfl rfl)<|d_done<|kn49 _ _<|cnd (p:=¬ ((decide ((el xs i).1=true),(el xs i).2)=(decide ((el ys i).1=true),(el ys i).2))) rfl (fun h59=>?_) (fun h59=>?_)
    ·refine sr fun Q60 k61=>qt asg<|nl<|k61 _ _<|ret<|kr45 _ _<|kr41 _ _<|kr30 _ _<|kr20 _ _<|kr14 _ _<|leave1 (P:=Tryz.prog) (fn:=Tryz.f126) (t:=4) (v:=.bool false) rfl rfl<|?_
     exact ⟨_,rfl,⟨fun h=>(by cases h),fun h=>(by subst h;first | exact absurd rfl (by assumption) | (have hz:=pairE.not.1 h59;exact absurd rfl hz))⟩,H55.x⟩
    ·refine skip<|kn44 _ _<|kn40 _ _<|region<|qt mv<|qt (addN (b:=1) rfl rfl)<|qt asg<|nl<|kn29 _ ((i+1)) _ ⟨rfl,rfl,rfl,trivial⟩ ⟨H55,?_⟩ ?_
     ·try dsimp only
      exact ⟨by omega,fun j hj=>(Nat.lt_or_ge j i).elim (hg j) (fun h=>(show j=i by omega)▸pairE.1 (Decidable.of_not_not (by assumption)))⟩
     ·(try dsimp only);omega
   ·refine exit<|ke35 _ _ _<|ke31 _ _ _<|kb22 _ _<|kn13 _ _<|?_
    refine sr fun Q62 k63=>qt asg<|nl<|k63 _ _<|ret<|leave1 (P:=Tryz.prog) (fn:=Tryz.f126) (t:=4) (v:=.bool true) rfl rfl<|?_
    exact ⟨_,rfl,⟨fun _=>ext_el (by omega) fun j hj=>hg j (by omega),fun _=>rfl⟩,hx26.x⟩
theorem SameAtom70 (p q:ByteArray) (a b:Option Addr) (c d:Nat) (xs ys:List Tm) (w0:World) (hs:Srm eT w0.heap a xs.length c xs) (hs2:Srm eT w0.heap b ys.length d ys) :
  Calls Tryz.prog 70 #[.agg #[.string p,.slice a xs.length c],.agg #[.string q,.slice b ys.length d]] w0 fun e w'=>∃ r:Bool,e= .returned (.bool r)∧(r=true↔(p=q∧xs=ys))∧Ext w0 w':=by
 refine enter Tryz.func70 rfl 17 Tryz.ntmps70 rfl<|?_
 refine sr fun Q1 k2=>?_
 refine st_e<|Ebx (v:=.agg #[.string p,.slice a xs.length c]) (Hp.start No w0) rfl fun b3 w4 H5 x6=>?_
 refine st_e<|Ebx (v:=.agg #[.string q,.slice b ys.length d]) H5 rfl fun b7 w8 H9 x10=>qt asg<|nl<|k2 _ _<|?_
 refine sr fun Q11 k12=>qt (x_field (o:=0) T.fa32_0 rfl)<|qt (x_load1 T.na9 rfl (H9.ld 1 rfl 0 rfl))<|qt (x_field (o:=0) T.fa32_0 rfl)<|qt (x_load1 T.na9 rfl (H9.ld 0 rfl 0 rfl))<|qt (x_eqlS rfl rfl)<|st_if (p:=p.toList=q.toList) (x_move rfl) (fun h13=>?_) (fun h13=>?_)
 ·refine st_gq 5 10 rfl rfl (by decide)<|qt (x_field (o:=0) T.fa32_1 rfl)<|st_gq 5 10 rfl rfl (by decide)<|qt (x_load1 T.na30 rfl (H9.ld 1 rfl 1 rfl))<|st_gq 5 10 rfl rfl (by decide)<|qt (x_field (o:=0) T.fa32_1 rfl)<|st_gq 5 10 rfl rfl (by decide)<|qt (x_load1 T.na30 rfl (H9.ld 0 rfl 1 rfl))<|st_gq 5 10 rfl rfl (by decide)<|?_
  refine cl T.cf126 (SameTerms126 a b c d xs ys _ (hs.ext H9.x) (hs2.ext H9.x)) rfl fun _ w17 ⟨r14,er,hr15,X16⟩=>⟨_,er,?_⟩
  have H18:=H9.ext X16
  refine qt (pkT rfl)<|qt asg<|nl<|k12 _ _<|ret<|leave1 (P:=Tryz.prog) (fn:=Tryz.f70) (t:=4) (v:=.bool r14) rfl rfl<|?_
  exact ⟨_,rfl,⟨fun h=>⟨bytes_ext (by assumption),hr15.1 h⟩,fun h=>hr15.2 h.2⟩,H18.x⟩
 ·refine st_gn 5 10 rfl rfl (by decide) rfl<|st_gn 5 10 rfl rfl (by decide) rfl<|st_gn 5 10 rfl rfl (by decide) rfl<|st_gn 5 10 rfl rfl (by decide) rfl<|st_gn 5 10 rfl rfl (by decide) rfl<|qt (pkF rfl)<|qt asg<|nl<|k12 _ _<|ret<|leave1 (P:=Tryz.prog) (fn:=Tryz.f70) (t:=4) (v:=.bool false) rfl rfl<|?_
  exact ⟨_,rfl,⟨fun h=>(by cases h),fun h=>absurd (congrArg ByteArray.toList h.1) (by assumption)⟩,H9.x⟩
theorem SameLiteral30 (z y:Rw) (w0:World) (hs:RowM w0.heap z) (hs2:RowM w0.heap y) :
  Calls Tryz.prog 30 #[.agg (eL.enc z).toArray,.agg (eL.enc y).toArray] w0 fun e w'=>∃ r:Bool,e= .returned (.bool r)∧(r=true↔z.1=y.1)∧Ext w0 w':=by
 refine enter Tryz.func30 rfl 31 Tryz.ntmps30 rfl<|?_
 refine sr fun Q1 k2=>?_
 refine st_e<|Ebx (v:=.agg #[.int .i64 z.1.kind,.string z.1.pred,.slice z.2.1 z.1.args.length z.2.2,.bool (decide (z.1.left.1=true)),.string z.1.left.2,.bool (decide (z.1.right.1=true)),.string z.1.right.2]) (Hp.start No w0) rfl fun b3 w4 H5 x6=>?_
 refine st_e<|Ebx (v:=.agg #[.int .i64 y.1.kind,.string y.1.pred,.slice y.2.1 y.1.args.length y.2.2,.bool (decide (y.1.left.1=true)),.string y.1.left.2,.bool (decide (y.1.right.1=true)),.string y.1.right.2]) H5 rfl fun b7 w8 H9 x10=>qt asg<|nl<|k2 _ _<|?_
 refine sr fun Q11 k12=>qt (x_field (o:=0) T.fa37_0 rfl)<|qt (x_load1 T.na33 rfl (H9.ld 1 rfl 0 rfl))<|qt (x_field (o:=0) T.fa37_0 rfl)<|qt (x_load1 T.na33 rfl (H9.ld 0 rfl 0 rfl))<|qt (x_eql rfl rfl)<|st_if (p:=z.1.kind=y.1.kind) (x_move rfl) (fun h13=>?_) (fun h13=>?_)
 ·refine st_gq 5 10 rfl rfl (by decide)<|qt (x_field (o:=0) T.fa37_1 rfl)<|st_gq 5 10 rfl rfl (by decide)<|qt (x_loadA [.string z.1.pred,.slice z.2.1 z.1.args.length z.2.2] T.ag32 rfl (H9.lds 1 rfl 1 [.string z.1.pred,.slice z.2.1 z.1.args.length z.2.2] rfl))<|st_gq 5 10 rfl rfl (by decide)<|qt (x_field (o:=0) T.fa37_1 rfl)<|st_gq 5 10 rfl rfl (by decide)<|qt (x_loadA [.string y.1.pred,.slice y.2.1 y.1.args.length y.2.2] T.ag32 rfl (H9.lds 0 rfl 1 [.string y.1.pred,.slice y.2.1 y.1.args.length y.2.2] rfl))<|st_gq 5 10 rfl rfl (by decide)<|?_
  refine cl T.cf70 (SameAtom70 z.1.pred y.1.pred z.2.1 y.2.1 z.2.2 y.2.2 z.1.args y.1.args _ (hs.ext H9.x) (hs2.ext H9.x)) rfl fun _ w17 ⟨r14,er,hr15,X16⟩=>⟨_,er,?_⟩
  have H18:=H9.ext X16
  refine qt (pkT rfl)<|st_if (p:=r14=true) (mvB rfl) (fun h19=>?_) (fun h19=>?_)
  ·refine st_gq 12 17 rfl rfl (by decide)<|qt (x_field (o:=0) T.fa37_2 rfl)<|st_gq 12 17 rfl rfl (by decide)<|qt (x_loadA [.bool (decide (z.1.left.1=true)),.string z.1.left.2] T.ag35 rfl (H18.lds 1 rfl 3 [.bool (decide (z.1.left.1=true)),.string z.1.left.2] rfl))<|st_gq 12 17 rfl rfl (by decide)<|qt (x_field (o:=0) T.fa37_2 rfl)<|st_gq 12 17 rfl rfl (by decide)<|qt (x_loadA [.bool (decide (y.1.left.1=true)),.string y.1.left.2] T.ag35 rfl (H18.lds 0 rfl 3 [.bool (decide (y.1.left.1=true)),.string y.1.left.2] rfl))<|st_gq 12 17 rfl rfl (by decide)<|qt (x_eqlT' T.eqT35 rfl rfl)<|qt (pkT rfl)<|st_if (p:=(decide (z.1.left.1=true),z.1.left.2)=(decide (y.1.left.1=true),y.1.left.2)) (x_move rfl) (fun h20=>?_) (fun h20=>?_)
   ·refine st_gq 19 24 rfl rfl (by decide)<|qt (x_field (o:=0) T.fa37_3 rfl)<|st_gq 19 24 rfl rfl (by decide)<|qt (x_loadA [.bool (decide (z.1.right.1=true)),.string z.1.right.2] T.ag35 rfl (H18.lds 1 rfl 5 [.bool (decide (z.1.right.1=true)),.string z.1.right.2] rfl))<|st_gq 19 24 rfl rfl (by decide)<|qt (x_field (o:=0) T.fa37_3 rfl)<|st_gq 19 24 rfl rfl (by decide)<|qt (x_loadA [.bool (decide (y.1.right.1=true)),.string y.1.right.2] T.ag35 rfl (H18.lds 0 rfl 5 [.bool (decide (y.1.right.1=true)),.string y.1.right.2] rfl))<|st_gq 19 24 rfl rfl (by decide)<|qt (x_eqlT' T.eqT35 rfl rfl)<|qt (pkT rfl)<|qt asg<|nl<|k12 _ _<|ret<|leave1 (P:=Tryz.prog) (fn:=Tryz.f30) (t:=4) (v:=.bool (decide ((decide (z.1.right.1=true),z.1.right.2)=(decide (y.1.right.1=true),y.1.right.2)))) rfl rfl<|?_
    exact ⟨_,rfl,(by rw [decide_eq_true_iff,pairE];exact ⟨fun h=>lit_iff.2 ⟨by assumption,hr15.1 (by assumption),pairE.1 (by assumption),h⟩,fun h=>(lit_iff.1 h).2.2.2⟩),H18.x⟩
   ·refine st_gn 19 24 rfl rfl (by decide) rfl<|st_gn 19 24 rfl rfl (by decide) rfl<|st_gn 19 24 rfl rfl (by decide) rfl<|st_gn 19 24 rfl rfl (by decide) rfl<|st_gn 19 24 rfl rfl (by decide) rfl<|qt (pkF rfl)<|qt asg<|nl<|k12 _ _<|ret<|leave1 (P:=Tryz.prog) (fn:=Tryz.f30) (t:=4) (v:=.bool false) rfl rfl<|?_
    exact ⟨_,rfl,⟨fun h=>(by cases h),fun h=>(by have hi:=lit_iff.1 h;first | exact absurd hi.1 (by assumption) | exact absurd (hr15.2 hi.2.1) (by assumption) | exact absurd (pairE.2 hi.2.2.1) (by assumption))⟩,H18.x⟩
  ·refine st_gn 12 17 rfl rfl (by decide) rfl<|st_gn 12 17 rfl rfl (by decide) rfl<|st_gn 12 17 rfl rfl (by decide) rfl<|st_gn 12 17 rfl rfl (by decide) rfl<|st_gn 12 17 rfl rfl (by decide) rfl<|qt (pkF rfl)<|qt mv<|st_gn 19 24 rfl rfl (by decide) rfl<|st_gn 19 24 rfl rfl (by decide) rfl<|st_gn 19 24 rfl rfl (by decide) rfl<|st_gn 19 24 rfl rfl (by decide) rfl<|st_gn 19 24 rfl rfl (by decide) rfl<|qt (pkF rfl)<|qt asg<|nl<|k12 _ _<|ret<|leave1 (P:=Tryz.prog) (fn:=Tryz.f30) (t:=4) (v:=.bool false) rfl rfl<|?_
   exact ⟨_,rfl,⟨fun h=>(by cases h),fun h=>(by have hi:=lit_iff.1 h;first | exact absurd hi.1 (by assumption) | exact absurd (hr15.2 hi.2.1) (by assumption) | exact absurd (pairE.2 hi.2.2.1) (by assumption))⟩,H18.x⟩
 ·refine st_gn 5 10 rfl rfl (by decide) rfl<|st_gn 5 10 rfl rfl (by decide) rfl<|st_gn 5 10 rfl rfl (by decide) rfl<|st_gn 5 10 rfl rfl (by decide) rfl<|st_gn 5 10 rfl rfl (by decide) rfl<|qt (pkF rfl)<|qt mv<|st_gn 12 17 rfl rfl (by decide) rfl<|st_gn 12 17 rfl rfl (by decide) rfl<|st_gn 12 17 rfl rfl (by decide) rfl<|st_gn 12 17 rfl rfl (by decide) rfl<|st_gn 12 17 rfl rfl (by decide) rfl<|qt (pkF rfl)<|qt mv<|st_gn 19 24 rfl rfl (by decide) rfl<|st_gn 19 24 rfl rfl (by decide) rfl<|st_gn 19 24 rfl rfl (by decide) rfl<|st_gn 19 24 rfl rfl (by decide) rfl<|st_gn 19 24 rfl rfl (by decide) rfl<|qt (pkF rfl)<|qt asg<|nl<|k12 _ _<|ret<|leave1 (P:=Tryz.prog) (fn:=Tryz.f30) (t:=4) (v:=.bool false) rfl rfl<|?_
  exact ⟨_,rfl,⟨fun h=>(by cases h),fun h=>(by have hi:=lit_iff.1 h;first | exact absurd hi.1 (by assumption) | exact absurd (pairE.2 hi.2.2.1) (by assumption))⟩,H9.x⟩
theorem SameBody9 (a b:Option Addr) (m c n d:Nat) (rows qs:List Rw) (w0:World) (hs:Lits w0.heap a m c rows) (hs2:Lits w0.heap b n d qs) :
  Calls Tryz.prog 9 #[.slice a m c,.slice b n d] w0 fun e w'=>∃ r:Bool,e= .returned (.bool r)∧(r=true↔rows.map (·.1)=qs.map (·.1))∧Ext w0 w':=by
 have hlen:=hs.1.len
 have hlen2:=hs2.1.len
 have hc:=hs.1.cap
 refine enter Tryz.func9 rfl 29 Tryz.ntmps9 rfl<|?_
 refine sr fun Q1 k2=>qt asg<|nl<|k2 _ _<|seqK fun Q3 kn4 kr5 ke6=>?_
 refine sr fun Q7 k8=>qt mv<|qt (x_lenSl rfl Tryz.underlying23 rfl)<|qt mv<|qt (x_lenSl rfl Tryz.underlying23 rfl)<|qt (x_neqN rfl rfl)<|nl<|k8 _ _<|cnd (p:=m≠n) rfl (fun h9=>?_) (fun h9=>?_)
 ·refine sr fun Q10 k11=>qt asg<|nl<|k11 _ _<|ret<|kr5 _ _<|leave1 (P:=Tryz.prog) (fn:=Tryz.f9) (t:=4) (v:=.bool false) rfl rfl<|?_
  exact ⟨_,rfl,⟨fun h=>(by cases h),fun h=>(by have:=(map_fst_iff.1 h).1;omega)⟩,(Hp.start No w0).x⟩
 ·refine skip<|kn4 _ _<|seqK fun Q12 kn13 kr14 ke15=>?_
  refine sr fun Q16 k17=>qt asg<|nl<|k17 _ _<|blockK fun Q18 kn19 kr20 kx21 kb22=>?_
  refine loopK (α:=Nat) (fun x=>[(0,.slice a m c),(1,.slice b n d),(5,.int .i64 ((x:Nat):Int))]) (fun x w23=>Hp No w0 w23 []∧x≤m∧∀ j,j<x→(el rows j).1=(el qs j).1) (fun x=>m-x) (0) ⟨rfl,rfl,rfl,trivial⟩ ?_ ?_
  ·refine ⟨(Hp.start No w0),?_⟩
   try dsimp only
   exact ⟨Nat.zero_le _,fun j h=>absurd h (Nat.not_lt_zero _)⟩
  ·rintro τ24 i w25 ⟨hx26,⟨hi,hg⟩⟩
   try dsimp only at hi hg
   have hz27:=hx26.le
   intro Q28 kn29 kr30 ke31
   refine seqK fun Q32 kn33 kr34 ke35=>?_
   refine sr fun Q36 k37=>qt mv<|qt mv<|qt (x_lenSl rfl Tryz.underlying23 rfl)<|qt (x_lssN rfl rfl)<|nl<|k37 _ _<|cnd (p:=i<m) rfl (fun h38=>?_) (fun h38=>?_)
   ·refine skip<|kn33 _ _<|seqK fun Q39 kn40 kr41 ke42=>blockK fun Q43 kn44 kr45 kx46 kb47=>seqK fun Q48 kn49 kr50 ke51=>regionD1 [3,7] [0,1,2,3,4,5,6,7,9] (.one 0 (.one 1 (.one 2 (.one 3 (.one 4 (.one 5 (.one 6 (.one 7 (.one 8 (.one 9 .done)))))))))) (by kernel_rfl) (by kernel_rfl) fun w52 x53 s54=>?_
    have H55:=hx26.ext x53
    have S56:Ext w52 w52:=Below.refl _ _
    refine d_q rfl rfl (fun _=>mv)<|d_q rfl rfl (fun _=>mv)<|d_q rfl rfl (fun _=>x_index' T.sl23 rfl ((hs.1.ext H55.x).addr (by omega)) rfl (by omega))<|d_l rfl rfl rfl (fun _ y57=>x_loadA [.int .i64 ((el rows i).1.kind),.string ((el rows i).1.pred),.slice ((el rows i).2.1) ((el rows i).1.args.length) ((el rows i).2.2),.bool (decide ((el rows i).1.left.1=true)),.string ((el rows i).1.left.2),.bool (decide ((el rows i).1.right.1=true)),.string ((el rows i).1.right.2)] T.ag37 rfl (((hs.1.ext H55.x).cell (i:=i) (by omega)).ext y57))<|d_q rfl rfl (fun _=>mv)<|d_q rfl rfl (fun _=>mv)<|d_q rfl rfl (fun _=>x_index' T.sl23 rfl ((hs2.1.ext H55.x).addr (by omega)) rfl (by omega))<|d_l rfl rfl rfl (fun _ y58=>x_loadA [.int .i64 ((el qs i).1.kind),.string ((el qs i).1.pred),.slice ((el qs i).2.1) ((el qs i).1.args.length) ((el qs i).2.2),.bool (decide ((el qs i).1.left.1=true)),.string ((el qs i).1.left.2),.bool (decide ((el qs i).1.right.1=true)),.string ((el qs i).1.right.2)] T.ag37 rfl (((hs2.1.ext H55.x).cell (i:=i) (by omega)).ext y58))<|?_
    refine d_e (by decide)<|d_c' rfl rfl (t_call _ T.cf30 rfl rfl) (SameLiteral30 (el rows i) (el qs i) _ ((hs.2 i (by omega)).ext H55.x) ((hs2.2 i (by omega)).ext H55.x)) fun _ w62 ⟨r59,er,hr60,X61⟩=>⟨_,er,?_⟩
    have H63:=H55.ext X61
    have S64:=S56.trans (X61.mono S56.size)
    refine ⟨fun _=>S64,?_⟩
    refine d_q rfl rfl (fun _=>asg)<|d_done<|kn49 _ _<|?_
    refine sr fun Q65 k66=>qt (mvB rfl)<|qt (x_notP rfl)<|nl<|k66 _ _<|cnd (p:=¬ (r59=true)) rfl (fun h67=>?_) (fun h67=>?_)
    ·refine sr fun Q68 k69=>qt asg<|nl<|k69 _ _<|ret<|kr45 _ _<|kr41 _ _<|kr30 _ _<|kr20 _ _<|kr14 _ _<|leave1 (P:=Tryz.prog) (fn:=Tryz.f9) (t:=4) (v:=.bool false) rfl rfl<|?_
     exact ⟨_,rfl,⟨fun h=>(by cases h),fun h=>absurd (hr60.2 ((map_fst_iff.1 h).2 i (by omega))) (by assumption)⟩,H63.x⟩
    ·refine skip<|kn44 _ _<|kn40 _ _<|region<|qt mv<|qt (addN (b:=1) rfl rfl)<|qt asg<|nl<|kn29 _ ((i+1)) _ ⟨rfl,rfl,rfl,trivial⟩ ⟨H63,?_⟩ ?_
     ·try dsimp only
      exact ⟨by omega,fun j hj=>(Nat.lt_or_ge j i).elim (hg j) (fun h=>(show j=i by omega)▸hr60.1 (by first | assumption | exact Decidable.of_not_not (by assumption)))⟩
     ·(try dsimp only);omega
   ·refine exit<|ke35 _ _ _<|ke31 _ _ _<|kb22 _ _<|kn13 _ _<|?_
    refine sr fun Q70 k71=>qt asg<|nl<|k71 _ _<|ret<|leave1 (P:=Tryz.prog) (fn:=Tryz.f9) (t:=4) (v:=.bool true) rfl rfl<|?_
    exact ⟨_,rfl,⟨fun _=>map_fst_iff.2 ⟨by omega,fun j hj=>hg j (by omega)⟩,fun _=>rfl⟩,hx26.x⟩
end Go.Proofs.YtljfgmedbjlkaaaGreat
namespace Go.Proofs.YtljfgmedbjlkaaaGreat
open Go.RowKit Go.Eng Go.QP
end Go.Proofs.YtljfgmedbjlkaaaGreat
