/- strings.Join over a list that is read: its bytes. -/
import Derived.Test.YtljfgmedbjlkaaaGreatSJ
import Derived.Test.YtljfgmedbjlkaaaGreatV8
import Derived.Test.YtljfgmedbjlkaaaGreatQA
import Derived.Test.YtljfgmedbjlkaaaGreatTQ
import Derived.Test.YtljfgmedbjlkaaaGreatV3
import Derived.Test.YtljfgmedbjlkaaaGreatProg
import Derived.Test.YtljfgmedbjlkaaaGreatQD
import Derived.Test.YtljfgmedbjlkaaaGreatQV
namespace Go.Proofs.YtljfgmedbjlkaaaGreat
open Go.RowKit Go.Eng Go.QP
theorem De (xs:List ByteArray):flat eS.enc xs=xs.map Value.string:=by
 induction xs with
 | nil=>rfl
 | cons x xs ih=>simp only [flat,List.flatMap_cons,List.map_cons] at *;rw [ih];rfl
theorem uM {α β:Type} (f:α->β) (s:α):∀ l:List α,(List.intersperse s l).map f=List.intersperse (f s) (l.map f)
 | []=>rfl
 | [_]=>rfl
 | x::y::r=>by
  have h:=uM f s (y::r);simp only [List.intersperse,List.map_cons] at h ⊢;rw [h]
theorem Kn (xs:List ByteArray) (sep:ByteArray):bl (⟨(Lib.join (xs.map (·.data.toList)) sep.data.toList).toArray⟩:ByteArray)=(bl sep).intercalate (xs.map bl):=by
 unfold bl Lib.join;simp only [List.intercalate,List.map_flatten,uM,List.map_map];rfl
theorem IJ (xs:List ByteArray) (a:Option Addr) (m c:Nat) (sep:ByteArray) (w0:World) (hs:Srm eS w0.heap a m c xs) (hm:m<=140737488355328) (hlen:((bl sep).intercalate (xs.map bl)).length<=140737488355328) :
  Calls Tryz.prog 34 #[.slice a m c,.string sep] w0 λe w'=>∃ t,e= .returned (.string t)/\bl t=(bl sep).intercalate (xs.map bl)/\Ext w0 w':=by
 have hl:xs.length=m:=hs.len;obtain ⟨_,a',c',hv,hmc,hcm,h4⟩:=hs;injection hv with e1 _ e3;subst e1 e3;subst hl;have hbl:=Kn xs sep
 rcases Nat.eq_zero_or_pos xs.length with h0 | hp
 .obtain rfl:xs=[]:=List.eq_nil_of_length_eq_zero h0;refine (Tryz.strings_Join_none a c sep w0).mono λe w' ⟨he,hw⟩=>⟨_,he,rfl,?_⟩;subst hw;exact Below.refl _ _
 .rcases h4 with h4 | ⟨b,o,rfl,arr,t,z,hb,hc⟩
  .omega
  .refine (Tryz.strings_Join b o c xs sep w0 (λj x hx=>?_) (Array.getElem?_eq_some_iff.1 hb).1 hm hmc (by have:=congrArg List.length hbl;unfold bl at this;rw [List.length_map] at this;unfold bl at hlen;rw [← this] at hlen;exact hlen)).mono λe w' ⟨he,hw⟩=>⟨_,he,hbl,hw⟩;obtain ⟨hj,e1⟩:=List.getElem?_eq_some_iff.1 hx;have h5:=hc j (by rw [De,List.length_map];exact hj);have h6:(flat eS.enc xs)[j]?=some (.string x):=by rw [De,List.getElem?_map,hx];rfl
   rw [← List.getElem?_eq_getElem,h6] at h5;simp [World.cell?,hb,h5]
theorem T.sl30:SL Tryz.prog 30 35 2 24 (.agg #[.bool false,.string ByteArray.empty]):=aY Tryz.underlying30 (by kernel_rfl) rfl (by decide)
theorem T.zv35:ZV Tryz.prog 35 (.agg #[.bool false,.string ByteArray.empty]):=λ_=>by kernel_rfl
theorem T.sz35:SZ Tryz.prog 35 2:=λ_=>by kernel_rfl
theorem T.cf57:CF Tryz.prog 57:=λ_ _=>by kernel_rfl
theorem T.sl50:SL Tryz.prog 50 9 1 16 (.string ByteArray.empty):=aY Tryz.underlying50 (by kernel_rfl) rfl (by decide)
theorem T.cf34:CF Tryz.prog 34:=λ_ _=>by kernel_rfl
abbrev eT:En (Bool × ByteArray):=⟨λx=>[vB (x.1=true),.string x.2],2,λ_=>rfl,by decide,λ_=>rfl⟩
def OutR (ts:List (Bool × ByteArray)) (i:Nat) (os:List ByteArray):Prop:=os.length=i/\∀ j,j<i->TermR (el ts j).1 (el ts j).2 (el os j) 0
theorem OutR.nil (ts:List (Bool × ByteArray)):OutR ts 0 []:=⟨rfl,λ_ h=>absurd h (Nat.not_lt_zero _)⟩
theorem OutR.snoc {ts:List (Bool × ByteArray)} {i k:Nat} {os:List ByteArray} {t:ByteArray} (h:OutR ts i os) (hk:k=0) (ht:TermR (el ts i).1 (el ts i).2 t k):OutR ts (i+1) (os++[t]):=by
 obtain ⟨h1,h2⟩:=h;subst hk;refine ⟨by rw [List.length_append,h1];rfl,λj hj=>?_⟩
 by_cases hji:j=i
 .subst hji;have:el (os++[t]) j=t:=by rw [aF (by rw [List.length_append,h1];simp)];simp [← h1]
  rw [this];exact ht
 .have:el (os++[t]) j=el os j:=by
   rw [aF (by rw [List.length_append];omega),aF (show j<os.length by omega),List.getElem_append_left (by omega)]
  rw [this];exact h2 j (by omega)
theorem lD (s:List Nat) (A:Nat):∀ l:List (List Nat),(∀ x ∈ l,x.length<=A)->(s.intercalate l).length<=l.length * (A+s.length)
 | [],_=>by simp [List.intercalate]
 | [x],h=>by have:=h x (List.mem_cons_self ..);simp [List.intercalate];omega
 | x::y::r,h=>by
  have h1:=lD s A (y::r) λz hz=>h z (List.mem_cons_of_mem _ hz);have h2:=h x (List.mem_cons_self ..);simp only [List.intercalate,List.intersperse,List.flatten_cons,List.length_append,List.length_cons] at h1 ⊢;rw [Nat.add_mul (r.length+1) 1,Nat.one_mul];omega
theorem RU {ts:List (Bool × ByteArray)} {i m:Nat} {os:List ByteArray} {sep:ByteArray} (h:OutR ts i os) (hi:i<=m) (hm:m<=1048576) (hsep:sep.size<=16):((bl sep).intercalate (os.map bl)).length<=140737488355328:=by
 obtain ⟨h1,h2⟩:=h
 have h3:=lD (bl sep) 4098 (os.map bl) λx hx=>by
  obtain ⟨o,ho,rfl⟩:=List.mem_map.1 hx;obtain ⟨j,hj,rfl⟩:=List.getElem_of_mem ho;have:=(h2 j (by omega)).len;rw [aF hj] at this;rw [bN];exact this
 rw [List.length_map,h1,bN] at h3;have h4:i * (4098+sep.size)<=1048576 * 4114:=Nat.mul_le_mul (by omega) (by omega);omega
theorem zG (ts:List (Bool × ByteArray)) (a:Option Addr) (m c:Nat) (sep:ByteArray) (w0:World) (hs:Srm eT w0.heap a m c ts) (hm:m<=1048576) (hsep:sep.size<=16) (hb:∀ i,i<m->(el ts i).2.size<=68719476736) :
  Calls Tryz.prog 71 #[.slice a m c,.string sep,.func (.func 57) #[] #[]] w0 λe w'=>(∃ os t,e= .returned (.tuple #[.string t,.bool true])/\OutR ts m os/\bl t=(bl sep).intercalate (os.map bl)/\Ext w0 w')\/((∃ i,i<m/\¬ yF (el ts i).1 (el ts i).2)/\e= .returned (.tuple #[.string (ByteArray.mk #[]),.bool false])/\Ext w0 w'):=by
 have hc:=hs.cap;have hl:=hs.len;refine enter Tryz.func71 rfl 35 Tryz.ntmps71 rfl<|sZ rfl<|sZ rfl<|seqJ λ_ I J _=>sZ rfl<|blockJ λ_ _ K _ L=>ay (α:=Nat × (Option Addr) × Nat × (List ByteArray)) (λx=>[(1,.string sep),(2,.func (.func 57) #[] #[]),(8,.slice x.2.1 x.1 x.2.2.1),(13,.slice a m c),(14,vN m),(15,vN x.1)]) (λx M=>Hp No w0 M [cQ 9 eS x.2.1 x.1 x.2.2.1 x.2.2.2]/\x.1<=m/\OutR ts x.1 x.2.2.2) (λx=>m-x.1) (0,none,0,[]) ⟨rfl,rfl,rfl,rfl,rfl,rfl,trivial⟩ ?_ ?_
 .refine ⟨((Hp.start No w0).nilQ 9 eS),?_⟩;(try dsimp only);exact ⟨Nat.zero_le _,OutR.nil ts⟩
 .rintro oa ⟨i,a2,pa,os⟩ qa ⟨A,⟨hi,ho⟩⟩;(try dsimp only at hi ho);intro ra N O R;dsimp only at A ⊢;refine sZ rfl<|seqJ λ_ U _ V=>cnd (p:=i<m) rfl (λW=>?_) (λW=>?_)
  .refine skip<|U<|seqJ λ_ X Y _=>blockJ λ_ Z aa _ _=>sj λ_ ba=>qR 2 (.e (hs.ext A.x) (i:=i) (by omega) .z) rfl rfl<|st_e<|Eal A T.zv35 λ_ _ ca _=>st_s<|Est (v:=.agg #[vB ((el ts i).1=true),.string ((el ts i).2)]) ca 0 T.sz35 rfl rfl rfl rfl rfl rfl λ_ C=>nl<|ba<|sj λ_ da=>qR 2 (.d C 0 0 2 rfl .z) rfl rfl<|st_c (aT _ T.cf57 rfl rfl) (Ph (el ts i).1 (el ts i).2 _ (hb i (by omega))) λ_ _ ⟨B,ea,er,ht45,fa⟩=>⟨_,er,?_⟩;have D:=C.ext fa;refine qZ 5 rfl<|nl<|da<|seqJ λ_ ga ha _=>sZ rfl<|cnd (p:=ea≠0) rfl (λG=>?_) (λG=>?_)
   .refine sZ rfl<|ret<|ha<|aa<|Y<|O _ _<|K<|J<|leave2 (v:=.string (ByteArray.mk #[])) (v':=.bool false) rfl rfl rfl ?_;exact .inr ⟨⟨i,by omega,(ht45.good.resolve_left (λh=>absurd h.1 (by omega))).2⟩,rfl,D.x⟩
   .refine skip<|ga<|region<|qt mv<|qt mv<|st_e<|Ebs (cs:=[.string B]) (e:=9) D (λ_=>by kernel_rfl) λ_ _ H _=>st_e<|EapQ H 2 T.sl50 rfl rfl rfl (H.lst (E:=eS) 0 rfl B rfl) (by omega) rfl rfl λa58 ia _ ja=>qt asg<|nl<|Z<|X<|rL (.a1 (by omega) .z) rfl rfl<|N _ ((i+1),a58,ia,(os++[B])) _ ⟨rfl,rfl,rfl,rfl,rfl,rfl,trivial⟩ ⟨(ja.pick [2] (by decide)),?_⟩ ?_
    ·(try dsimp only);exact ⟨by omega,ho.snoc (by have:=G;omega) ht45⟩
    ·(try dsimp only);omega
  .refine exit<|V<|R _ _ _<|L<|I<|sj λ_ ka=>qt mv<|qt mv<|cl T.cf34 (IJ os _ _ _ _ _ (A.srQ 0 rfl) (by omega) (RU ho hi hm hsep)) rfl λ_ _ ⟨la,er,hj65,ma⟩=>⟨_,er,?_⟩;have na:=A.ext ma;refine qZ 2 rfl<|nl<|ka<|ret<|leave2 (v:=.string la) (v':=.bool true) rfl rfl rfl ?_;exact .inl ⟨os,_,rfl,by rwa [show m=i by omega],hj65,na.x⟩
end Go.Proofs.YtljfgmedbjlkaaaGreat
