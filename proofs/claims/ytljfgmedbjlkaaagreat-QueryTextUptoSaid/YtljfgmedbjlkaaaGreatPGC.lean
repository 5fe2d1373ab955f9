/- Lists out of maps: a program's roles and what hangs on what, in order. -/
import Derived.Test.YtljfgmedbjlkaaaGreatPSO
import Derived.Test.YtljfgmedbjlkaaaGreatVR
namespace Go.Proofs.YtljfgmedbjlkaaaGreat
open Go.RowKit Go.Eng Go.QP Go.Sort Go.Lib
theorem gp {α:Type} [DecidableEq α]:∀ {K L:List α},K.Nodup->(∀ s,s ∈ K->s ∈ L)->K.length<=L.length
 | [],_,_,_=>Nat.zero_le _
 | a::K,L,h,hs=>by
  have ha:=hs a (List.mem_cons_self ..);have h1:=List.nodup_cons.1 h;have:=gp (K:=K) (L:=L.erase a) h1.2 λs hk=>(List.mem_erase_of_ne (by rintro rfl;exact h1.1 hk)).2 (hs s (List.mem_cons_of_mem _ hk));rw [List.length_erase_of_mem ha] at this;have:=List.length_pos_of_mem ha;show K.length+1<=_;omega
structure OM {β α γ:Type} (ky:γ->β) (mk:β->α->γ) (f:β->Option α) (left:β->Prop) (os:List γ):Prop where
 nd:(os.map ky).Nodup
 mem:∀ r,r ∈ os↔∃ y a,f y=some a/\¬ left y/\r=mk y a
 sub:∀ y,left y->(f y).isSome=true
theorem OM.start {β α γ:Type} {ky:γ->β} {mk:β->α->γ} {f:β->Option α}:OM ky mk f (λy=>(f y).isSome=true) []:=
 ⟨List.nodup_nil,λr=>⟨λh=>(by cases h),λ⟨y,a,h1,h2,_⟩=>absurd (by rw [h1];rfl) h2⟩,λ_ h=>h⟩
theorem OM.step {β α γ:Type} [DecidableEq β] {ky:γ->β} {mk:β->α->γ} {f:β->Option α} {left:β->Prop} {os:List γ} (h:OM ky mk f left os) (hk:∀ y a,f y=some a->ky (mk y a)=y) {y:β} {a:α} (hl:left y) (hf:f y=some a) :
  OM ky mk f (λy0=>left y0/\y0≠y) (os++[mk y a]):=by
 refine ⟨?_,λr=>?_,λz hz=>h.sub z hz.1⟩
 .rw [List.map_append,List.map_cons,List.map_nil,hk y a hf];refine List.nodup_append.2 ⟨h.nd,by simp,λu hu v hv=>?_⟩;rw [List.mem_singleton] at hv;subst hv;obtain ⟨r,hr,rfl⟩:=List.mem_map.1 hu;obtain ⟨z,b,h1,h2,rfl⟩:=(h.mem r).1 hr;rw [hk z b h1];intro e;subst e;exact h2 hl
 .rw [List.mem_append,List.mem_singleton,h.mem]
  constructor
  .rintro (⟨z,b,h1,h2,rfl⟩ | rfl)
   .exact ⟨z,b,h1,λq=>h2 q.1,rfl⟩
   .exact ⟨y,a,hf,λq=>q.2 rfl,rfl⟩
  .rintro ⟨z,b,h1,h2,rfl⟩
   by_cases e:z=y
   .subst e;rw [hf] at h1;injection h1 with h1;subst h1;exact .inr rfl
   .exact .inl ⟨z,b,h1,λq=>h2 ⟨q,e⟩,rfl⟩
theorem OM.done {β α γ:Type} {ky:γ->β} {mk:β->α->γ} {f:β->Option α} {left:β->Prop} {os:List γ} (h:OM ky mk f left os) (hn:∀ y,¬ left y) (r:γ):r ∈ os↔∃ y a,f y=some a/\r=mk y a:=by
 rw [h.mem];exact ⟨λ⟨y,a,h1,_,h2⟩=>⟨y,a,h1,h2⟩,λ⟨y,a,h1,h2⟩=>⟨y,a,h1,hn y,h2⟩⟩
def roF (p:Pg) (s:ByteArray):Option Ro:=(bU (au p) s).map λa=>(s,a,decide (cD p s p.rules.length≠0),(cI p s p.ins.length:Int),(cO p s p.outs.length:Int),(cF p s p.rules.length:Int),(cD p s p.rules.length:Int))
theorem Rst.roF {x:Px} {f:ByteArray->Option Ro} (h:Rst x.p x.ins.length x.outs.length x.rules.length f) (s:ByteArray):f s=roF x.p s:=by
 rw [h s];unfold YtljfgmedbjlkaaaGreat.roF;rw [gY];rfl
theorem uu {p:Pg} {s:ByteArray} {r:Ro} (h:roF p s=some r):r.1=s:=by
 unfold roF at h
 cases e:bU (au p) s with
 | none=>rw [e] at h;cases h
 | some a=>rw [e] at h;injection h with h;rw [← h]
theorem lK {p:Pg} {s:ByteArray} {r:Ro} (h:roF p s=some r):s ∈ (au p).map (·.pr):=by
 unfold roF bU at h
 cases e:(au p).find? λu=>decide (u.pr=s) with
 | none=>rw [e] at h;cases h
 | some u=>
  have h1:=List.find?_some e
  exact List.mem_map.2 ⟨u,List.mem_of_find?_eq_some e,of_decide_eq_true h1⟩
def RolesL (p:Pg) (rs:List Ro):Prop:=(∀ i j,i<j->j<rs.length->cb (el rs i).1 (el rs j).1<0)/\∀ r,r ∈ rs↔roF p r.1=some r
def rz (p:Pg) (ds:List Dp):Prop:=(∀ i j,i<j->j<ds.length->ltOf mG (el ds i) (el ds j)=true)/\∀ d,d ∈ ds↔d ∈ kQ p
theorem FZ {α:Type} [Inhabited α] {xs:List α} (h:xs.Nodup) {i j:Nat} (hi:i<xs.length) (hj:j<xs.length) (e:el xs i=el xs j):i=j:=by
 rw [aF hi,aF hj] at e
 rcases Nat.lt_trichotomy i j with q | q | q
 .exact absurd e (List.pairwise_iff_getElem.1 h i j hi hj q)
 .exact q
 .exact absurd e.symm (List.pairwise_iff_getElem.1 h j i hj hi q)
theorem wS {p:Pg} {os rs:List Ro} (hp:rs.Perm os) (hnd:(os.map (·.1)).Nodup) (hm:∀ r,r ∈ os↔roF p r.1=some r) (hs:∀ i j,i<j->j<os.length->ltOf J8 (el rs j) (el rs i)=false):RolesL p rs:=by
 refine ⟨λi j hij hj=>?_,λr=>by rw [hp.mem_iff];exact hm r⟩;have h1:=hs i j hij (by rw [← hp.length_eq];exact hj);have h2:¬ cb (el rs j).1 (el rs i).1<0:=of_decide_eq_false h1;have h3:=iU (el rs i).1 (el rs j).1
 by_cases h0:cb (el rs i).1 (el rs j).1=0
 .have e:=Er h0;have hnd2:(rs.map (·.1)).Nodup:=(hp.map _).nodup_iff.2 hnd;have:=FZ hnd2 (i:=i) (j:=j) (by rw [List.length_map];omega) (by rw [List.length_map];exact hj) (by rw [fI (by omega),fI hj];exact e);omega
 .omega
theorem yo {p:Pg} {os ds:List Dp} (hp:ds.Perm os) (hnd:os.Nodup) (hm:∀ d,d ∈ os↔d ∈ kQ p) (hs:∀ i j,i<j->j<os.length->ltOf mG (el ds j) (el ds i)=false):rz p ds:=by
 refine ⟨λi j hij hj=>?_,λr=>by rw [hp.mem_iff];exact hm r⟩;have h1:=hs i j hij (by rw [← hp.length_eq];exact hj);have hnd2:ds.Nodup:=hp.nodup_iff.2 hnd;rw [Bool.eq_false_iff,Ne,ue] at h1;rw [ue];have hne:el ds i≠el ds j:=λe=>by have:=FZ hnd2 (by omega) hj e;omega
 revert h1 hne
 generalize el ds i=x;generalize el ds j=y;intro h1 hne;have a1:=iU x.1 y.1;have a2:=iU x.2.1 y.2.1
 by_cases h0:cb x.1 y.1=0
 .have e:=Er h0;refine .inr ⟨e,?_⟩
  by_cases k0:cb x.2.1 y.2.1=0
  .have e2:=Er k0;refine .inr ⟨e2,?_⟩;cases hx:x.2.2 <;> cases hy:y.2.2
   .exact absurd (Prod.ext e (Prod.ext e2 (hx.trans hy.symm))) hne
   .exact ⟨rfl,rfl⟩
   .exact absurd (.inr ⟨e.symm,.inr ⟨e2.symm,hy,hx⟩⟩) h1
   .exact absurd (Prod.ext e (Prod.ext e2 (hx.trans hy.symm))) hne
  .exact .inl (by have:¬ cb y.2.1 x.2.1<0:=λq=>h1 (.inr ⟨e.symm,.inl q⟩);omega)
 .exact .inl (by have:¬ cb y.1 x.1<0:=λq=>h1 (.inl q);omega)
def ng (d:Dp):Nat:=if d.2.2=true then 1 else 0
def SolL (ds:List Dp) (L:ByteArray->Nat):Prop:=∀ d ∈ ds,L d.2.1+ng d<=L d.1
def Solv (ds:List Dp):Prop:=∃ L,SolL ds L
def QJ (ds:List Dp) (L:ByteArray->Nat):Prop:=SolL ds L/\∀ M,SolL ds M->∀ s,L s<=M s
theorem SolL.congr {ds es:List Dp} {L:ByteArray->Nat} (h:∀ d,d ∈ ds↔d ∈ es):SolL ds L↔SolL es L:=⟨λq d hd=>q d ((h d).2 hd),λq d hd=>q d ((h d).1 hd)⟩
theorem Solv.congr {ds es:List Dp} (h:∀ d,d ∈ ds↔d ∈ es):Solv ds↔Solv es:=⟨λ⟨L,q⟩=>⟨L,(SolL.congr h).1 q⟩,λ⟨L,q⟩=>⟨L,(SolL.congr h).2 q⟩⟩
theorem Be {α:Type} {g k:α->Nat}:∀ {l:List α},(∀ s ∈ l,g s<=k s)->(l.map g).sum<=(l.map k).sum
 | [],_=>Nat.le_refl _
 | x::l,h=>by
  have h1:=h x (List.mem_cons_self ..);have h2:=Be (l:=l) λs hs=>h s (List.mem_cons_of_mem _ hs);simp only [List.map_cons,List.sum_cons];omega
theorem wg {α:Type} {g k:α->Nat}:∀ {l:List α} {z:α},(∀ s ∈ l,g s<=k s)->z ∈ l->g z<k z->(l.map g).sum<(l.map k).sum
 | x::l,z,h,hz,hl=>by
  have h1:=h x (List.mem_cons_self ..);have h2:=Be (l:=l) λs hs=>h s (List.mem_cons_of_mem _ hs);simp only [List.map_cons,List.sum_cons]
  rcases List.mem_cons.1 hz with rfl | hz
  .omega
  .have:=wg (l:=l) (λs hs=>h s (List.mem_cons_of_mem _ hs)) hz hl;omega
def OO (ps:List ByteArray) (L:ByteArray->Nat) (s:ByteArray):Nat:=(ps.map λt=>if L t<L s then 1 else 0).sum
theorem J4 (ps:List ByteArray) (L:ByteArray->Nat) (s:ByteArray):OO ps L s<=ps.length:=by
 unfold OO
 induction ps with
 | nil=>exact Nat.le_refl _
 | cons x l ih=>simp only [List.map_cons,List.sum_cons,List.length_cons];split <;> omega
theorem Solv.low {ds:List Dp} {ps:List ByteArray} (h:Solv ds) (hq:∀ d ∈ ds,d.2.1 ∈ ps):∃ L,SolL ds L/\∀ s,L s<=ps.length:=by
 obtain ⟨L,hL⟩:=h;refine ⟨OO ps L,λd hd=>?_,J4 ps L⟩;have h1:=hL d hd
 have hmono:∀ {a b:ByteArray},L a<=L b->∀ s ∈ ps,(if L s<L a then 1 else 0)<=(if L s<L b then 1 else 0):=λ{a b} hab s _=>by
  split
  .rw [if_pos (by omega)];exact Nat.le_refl _
  .exact Nat.zero_le _
 unfold ng at h1 ⊢
 split
 .rename_i hn;rw [if_pos hn] at h1;have:=wg (g:=λt=>if L t<L d.2.1 then 1 else 0) (k:=λt=>if L t<L d.1 then 1 else 0) (l:=ps) (z:=d.2.1) (hmono (by omega)) (hq d hd) (by rw [if_neg (Nat.lt_irrefl _),if_pos (by omega)];decide);exact this
 .rename_i hn;rw [if_neg hn] at h1;exact Be (hmono (by omega))
def Ru (n:Nat):Value:=.int .i64 (n:Int)
def LvI (ds:List Dp) (n:Nat) (f:ByteArray->Option Nat):Prop:=(∀ L,SolL ds L->∀ s,(f s).getD 0<=L s)/\∀ s,(f s).getD 0<=n
theorem LvI.start {ds:List Dp} {n:Nat}:LvI ds n (λ_=>none):=⟨λ_ _ _=>Nat.zero_le _,λ_=>Nat.zero_le _⟩
theorem LvI.bad {ds:List Dp} {ps:List ByteArray} {f:ByteArray->Option Nat} (h:LvI ds ps.length f) (hq:∀ d ∈ ds,d.2.1 ∈ ps) {d:Dp} (hd:d ∈ ds) (hb:ps.length<(f d.2.1).getD 0+ng d):¬ Solv ds:=by
 intro hs;obtain ⟨L,hL,hle⟩:=hs.low hq;have h1:=h.1 L hL d.2.1;have h2:=hL d hd;have h3:=hle d.1;omega
theorem LvI.up {ds:List Dp} {n:Nat} {f:ByteArray->Option Nat} (h:LvI ds n f) {d:Dp} (hd:d ∈ ds) {v:Nat} (hv:v=(f d.2.1).getD 0+ng d) (hn:v<=n):LvI ds n (λy0=>if y0=d.1 then some v else f y0):=by
 refine ⟨λL hL s=>?_,λs=>?_⟩
 .dsimp only
  by_cases e:s=d.1
  .subst e;rw [if_pos rfl];have h1:=h.1 L hL d.2.1;have h2:=hL d hd;show v<=_;omega
  .rw [if_neg e];exact h.1 L hL s
 .dsimp only
  by_cases e:s=d.1
  .rw [if_pos e];exact hn
  .rw [if_neg e];exact h.2 s
def qo (ps:List ByteArray) (f:ByteArray->Option Nat):Nat:=(ps.map λs=>ps.length-(f s).getD 0).sum
theorem oh {ps:List ByteArray} {f:ByteArray->Option Nat} {h:ByteArray} {v:Nat} (hh:h ∈ ps) (hl:(f h).getD 0<v) (hv:v<=ps.length):qo ps (λy0=>if y0=h then some v else f y0)<qo ps f:=by
 refine wg (z:=h) (λs _=>?_) hh ?_
 .dsimp only
  by_cases e:s=h
  .subst e;rw [if_pos rfl];show ps.length-v<=_;omega
  .rw [if_neg e];exact Nat.le_refl _
 .dsimp only;rw [if_pos rfl];show ps.length-v<_;omega
theorem MR {r:Rl}:∀ {m:Nat} {d:Dp},d ∈ dL r m->d.1=r.hp/\∃ q,q<m/\¬ (el r.body q).kind=3/\d.2.1=(el r.body q).pred
 | 0,_,h=>by cases h
 | m+1,d,h=>by
  rw [dL] at h
  rcases List.mem_append.1 h with h | h
  .obtain ⟨h1,q,h2,h3⟩:=MR h;exact ⟨h1,q,by omega,h3⟩
  .split at h
   .cases h
   .rename_i hk;rw [List.mem_singleton] at h;subst h;exact ⟨rfl,m,by omega,hk,rfl⟩
theorem M9 {p:Pg}:∀ {k:Nat} {d:Dp},d ∈ dR p k->∃ i,i<k/\d ∈ dL (el p.rules i) (el p.rules i).body.length
 | 0,_,h=>by cases h
 | k+1,d,h=>by
  rw [dR] at h
  rcases List.mem_append.1 h with h | h
  .obtain ⟨i,h1,h2⟩:=M9 h;exact ⟨i,by omega,h2⟩
  .exact ⟨k,by omega,h⟩
theorem ny {p:Pg} {d:Dp} (h:d ∈ kQ p):(∃ a,bU (au p) d.1=some a)/\∃ a,bU (au p) d.2.1=some a:=by
 obtain ⟨i,hi,h2⟩:=M9 h;obtain ⟨h3,q,hq,hk,h4⟩:=MR h2;refine ⟨by rw [h3];exact o6 hi,?_⟩;have:=lJ (wX hi hq hk).1;rw [(wX hi hq hk).2] at this;rw [h4];exact this
theorem RolesL.has {p:Pg} {rs:List Ro} (h:RolesL p rs) {s:ByteArray} (hs:∃ a,bU (au p) s=some a):s ∈ rs.map (·.1):=by
 obtain ⟨a,ha⟩:=hs;obtain ⟨r,hr⟩:∃ r,roF p s=some r:=by unfold roF;rw [ha];exact ⟨_,rfl⟩
 have h1:=uu hr;exact List.mem_map.2 ⟨r,(h.2 r).2 (by rw [h1];exact hr),h1⟩
theorem sH {p:Pg} (h:aA p=0):FmP p:=by
 apply Decidable.of_not_not;intro q;rw [tM q] at h;cases h
theorem MT {p:Pg} (h:FmP p):∀ k,k<=p.rules.length->(uR p k).length<=k * 257
 | 0,_=>Nat.le_refl _
 | k+1,hk=>by
  have h1:=MT h k (by omega);have h2:=LX k (el p.rules k) (el p.rules k).body.length;have h3:=(h.2.2 _ (ak (xs:=p.rules) (i:=k) (by omega))).2.1;have e:(uR p (k+1)).length=(uR p k).length+(uL k (el p.rules k) (el p.rules k).body.length).length:=List.length_append;omega
theorem Km {p:Pg} (h:PgB p) (hf:FmP p):(au p).length<=271581184:=by
 have h1:=MT hf p.rules.length (Nat.le_refl _);have h2:=h.1;have h3:=h.2.1;have h4:=h.2.2.1;have e:(au p).length=(uI p p.ins.length).length+(uO p p.outs.length).length+(uR p p.rules.length).length:=by unfold au;rw [List.length_append,List.length_append]
 rw [DF,Gm] at e;omega
theorem RolesL.nd {p:Pg} {rs:List Ro} (h:RolesL p rs):(rs.map (·.1)).Nodup:=by
 rw [List.Nodup,List.pairwise_map,List.pairwise_iff_getElem];intro i j hi hj hij e;have h1:=h.1 i j hij hj;rw [aF hi,aF hj] at h1;rw [e,show cb rs[j].1 rs[j].1=0 from dY _] at h1;omega
theorem RolesL.len {p:Pg} {rs:List Ro} (hb:PgB p) (h0:aA p=0) (h:RolesL p rs):rs.length<=271581184:=by
 have h1:=gp (L:=(au p).map (·.pr)) h.nd λs hs=>by
  obtain ⟨r,hr,rfl⟩:=List.mem_map.1 hs;exact lK ((h.2 r).1 hr)
 rw [List.length_map,List.length_map] at h1;exact Nat.le_trans h1 (Km hb (sH h0))
abbrev Ti:=ByteArray × Nat
abbrev IQ:En Ti:=⟨λx=>[.string x.1,.int .i64 (x.2:Int)],2,λ_=>rfl,by decide,λ_=>rfl⟩
def NQ (p:Pg) (c:Nat):Prop:=(aA p≠0/\c=aA p)\/(aA p=0/\¬ Solv (kQ p)/\c=15)\/(aA p=0/\Solv (kQ p)/\c=0)
def GoodC (p:Pg) (c:Nat):Prop:=(aA p≠0/\c=aA p)\/(aA p=0/\jx p≠0/\c=jx p)\/(aA p=0/\jx p=0/\¬ Solv (kQ p)/\c=15)\/(aA p=0/\jx p=0/\Solv (kQ p)/\c=0)
theorem GoodC.uniq {p:Pg} {c d:Nat} (h:GoodC p c) (k:GoodC p d):c=d:=by
 rcases h with ⟨h1,h2⟩ | ⟨h1,h2,h3⟩ | ⟨h1,h2,h3,h4⟩ | ⟨h1,h2,h3,h4⟩ <;> rcases k with ⟨k1,k2⟩ | ⟨k1,k2,k3⟩ | ⟨k1,k2,k3,k4⟩ | ⟨k1,k2,k3,k4⟩ <;> first | omega | exact absurd h1 k1 | exact absurd k1 h1 | exact absurd h2 k2 | exact absurd k2 h2 | exact absurd h3 k3 | exact absurd k3 h3
abbrev MJ:ByteArray:=⟨#[113]⟩
def oH (q:List Qlit):Rl:=⟨MJ,[],q⟩
def QF (q:List Qlit):Prop:=q≠[]/\pT (oH q)
def j6 (p:Pg) (l:Qlit):Option Nat:=if l.kind=3 then none else match roF p l.pred with
 | none=>some 400
 | some r=>if r.2.1≠(l.args.length:Int) then some 12 else none
def nL (p:Pg) (q:List Qlit):Option (ByteArray × Nat):=q.findSome? λl=>(j6 p l).map λc=>(l.pred,c)
def ChkQ (p:Pg) (q:List Qlit) (s:ByteArray) (c:Nat):Prop:=
 (¬ GoodC p 0/\s=ByteArray.empty/\c=4)\/(GoodC p 0/\¬ QF q/\s=ByteArray.empty/\c=2)\/(GoodC p 0/\QF q/\nL p q=some (s,c))\/
 (GoodC p 0/\QF q/\nL p q=none/\aQ (oH q)=some s/\c=14)\/(GoodC p 0/\QF q/\nL p q=none/\aQ (oH q)=none/\s=ByteArray.empty/\c=0)
theorem Ho {p:Pg} {q:List Qlit} {i:Nat} {c:Nat} (h:∀ j,j<i->j6 p (el q j)=none) (hi:i<q.length) (hc:j6 p (el q i)=some c):nL p q=some ((el q i).pred,c):=by
 induction q generalizing i with
 | nil=>exact absurd hi (Nat.not_lt_zero _)
 | cons x q ih=>
  unfold nL
  rw [List.findSome?_cons]
  cases i with
  | zero=>
   have hc:j6 p x=some c:=hc
   rw [hc];rfl
  | succ i=>
   have h0:j6 p x=none:=h 0 (by omega)
   rw [h0]
   exact ih (i:=i) (λj hj=>h (j+1) (by omega)) (by simpa using hi) hc
theorem Av {p:Pg} {q:List Qlit} (h:∀ j,j<q.length->j6 p (el q j)=none):nL p q=none:=by
 unfold nL;rw [List.findSome?_eq_none_iff];intro l hl;obtain ⟨j,hj,rfl⟩:=aU hl;rw [h j hj];rfl
theorem wJ {p:Pg} {l:Qlit} (h:l.kind=3):j6 p l=none:=if_pos h
theorem BZ {p:Pg} {rs:List Ro} (hr:RolesL p rs) {l:Qlit} (h:¬ l.kind=3) (hn:∀ r ∈ rs,r.1≠l.pred):j6 p l=some 400:=by
 unfold j6;rw [if_neg h]
 cases e:roF p l.pred with
 | none=>rfl
 | some r=>
  have h1:=uu e
  exact absurd h1 (hn r ((hr.2 r).2 (by rw [h1];exact e)))
theorem qJ {p:Pg} {rs:List Ro} (hr:RolesL p rs) {l:Qlit} (h:¬ l.kind=3) {j:Nat} (hj:j<rs.length) (hp:(el rs j).1=l.pred):j6 p l=if (el rs j).2.1≠(l.args.length:Int) then some 12 else none:=by
 unfold j6;rw [if_neg h];have:=(hr.2 _).1 (ak hj);rw [hp] at this;rw [this]
end Go.Proofs.YtljfgmedbjlkaaaGreat
