/- A program's form, its uses of predicates, its roles: as data. -/
import Derived.Test.YtljfgmedbjlkaaaGreatPG
import Derived.Test.YtljfgmedbjlkaaaGreatVR
namespace Go.Proofs.YtljfgmedbjlkaaaGreat
open Go.RowKit Go.Eng Go.QP
def zH (s:ByteArray) (n:Int):Prop:=kind s=1/\0<=n/\n<=16
instance (s:ByteArray) (n:Int):Decidable (zH s n):=by unfold zH;exact inferInstance
def QH (x:KW):Prop:=zH x.1 x.2.1/\x.2.2.size<=1024
abbrev R3 (x:MF):Prop:=zH x.1 x.2
instance (x:KW):Decidable (QH x):=by unfold QH;exact inferInstance
def FmP (p:Pg):Prop:=(∀ x ∈ p.ins,QH x)/\(∀ x ∈ p.outs,R3 x)/\∀ r ∈ p.rules,pT r
instance (p:Pg):Decidable (FmP p):=by unfold FmP;exact inferInstance
structure Use where
 kd:Nat
 ix:Nat
 pr:ByteArray
 ar:Int
instance:Inhabited Use:=⟨⟨0,0,ByteArray.empty,0⟩⟩
def uI (p:Pg):Nat->List Use
 | 0=>[]
 | k+1=>uI p k++[⟨1,k,(el p.ins k).1,(el p.ins k).2.1⟩]
def uO (p:Pg):Nat->List Use
 | 0=>[]
 | k+1=>uO p k++[⟨2,k,(el p.outs k).1,(el p.outs k).2⟩]
def uL (i:Nat) (r:Rl):Nat->List Use
 | 0=>[⟨3,i,r.hp,r.ha.length⟩]
 | m+1=>uL i r m++(if (el r.body m).kind=3 then [] else [⟨3,i,(el r.body m).pred,(el r.body m).args.length⟩])
def uR (p:Pg):Nat->List Use
 | 0=>[]
 | k+1=>uR p k++uL k (el p.rules k) (el p.rules k).body.length
def au (p:Pg):List Use:=uI p p.ins.length++uO p p.outs.length++uR p p.rules.length
theorem nG {α:Type} {f:Nat->List α} (h:∀ k,f k <+:f (k+1)):∀ {m n:Nat},m<=n->f m <+:f n:=by
 intro m n hmn
 induction hmn with
 | refl=>exact List.prefix_refl _
 | step _ ih=>exact ih.trans (h _)
theorem Ov (p:Pg) {m n:Nat} (h:m<=n):uI p m <+:uI p n:=nG (λ_=>List.prefix_append _ _) h
theorem NW (p:Pg) {m n:Nat} (h:m<=n):uO p m <+:uO p n:=nG (λ_=>List.prefix_append _ _) h
theorem Jv (i:Nat) (r:Rl) {m n:Nat} (h:m<=n):uL i r m <+:uL i r n:=nG (λ_=>List.prefix_append _ _) h
theorem Ok (p:Pg) {m n:Nat} (h:m<=n):uR p m <+:uR p n:=nG (λ_=>List.prefix_append _ _) h
theorem AF {xs l:List Use} {x:Use} (h:xs++[x] <+:l):xs.length<l.length/\el l xs.length=x:=by
 obtain ⟨t,rfl⟩:=h;have:xs.length<(xs++[x]++t).length:=by simp
 refine ⟨this,?_⟩;rw [aF this];simp
theorem vX {a b c:List Use} (h:b <+:c):a++b <+:a++c:=(List.prefix_append_right_inj a).2 h
theorem I4 {p:Pg} {i:Nat} (h:i<p.ins.length):(uI p i).length<(au p).length/\el (au p) (uI p i).length=⟨1,i,(el p.ins i).1,(el p.ins i).2.1⟩:=by
 refine AF (List.IsPrefix.trans (Ov p (show i+1<=p.ins.length from h)) ?_);unfold au;rw [List.append_assoc];exact List.prefix_append _ _
theorem Bk {p:Pg} {i:Nat} (h:i<p.outs.length):(uI p p.ins.length).length+(uO p i).length<(au p).length/\el (au p) ((uI p p.ins.length).length+(uO p i).length)=⟨2,i,(el p.outs i).1,(el p.outs i).2⟩:=by
 rw [← List.length_append];refine AF ?_;rw [List.append_assoc];refine List.IsPrefix.trans (vX (NW p (show i+1<=p.outs.length from h))) ?_;unfold au;exact List.prefix_append _ _
def nU (p:Pg) (i:Nat):Nat:=(uI p p.ins.length++uO p p.outs.length).length+(uR p i).length
theorem LA (p:Pg) (i:Nat):nU p (i+1)=nU p i+(uL i (el p.rules i) (el p.rules i).body.length).length:=by
 have e:(uR p (i+1)).length=(uR p i).length+(uL i (el p.rules i) (el p.rules i).body.length).length:=List.length_append;unfold nU;omega
theorem Dh {p:Pg} {i:Nat} (h:i<p.rules.length) {us:List Use} {x:Use} (hu:us++[x] <+:uL i (el p.rules i) (el p.rules i).body.length):nU p i+us.length<(au p).length/\el (au p) (nU p i+us.length)=x:=by
 unfold nU;rw [← List.length_append,← List.length_append];refine AF ?_;unfold au;rw [List.append_assoc,List.append_assoc];refine vX ?_;refine List.IsPrefix.trans (vX hu) ?_;exact Ok p (show i+1<=p.rules.length from h)
theorem vZ {p:Pg} {i:Nat} (h:i<p.rules.length):nU p i<(au p).length/\el (au p) (nU p i)=⟨3,i,(el p.rules i).hp,(el p.rules i).ha.length⟩:=
 Dh h (us:=[]) (Jv i (el p.rules i) (Nat.zero_le _))
theorem wX {p:Pg} {i m:Nat} (h:i<p.rules.length) (hm:m<(el p.rules i).body.length) (hk:¬ (el (el p.rules i).body m).kind=3):nU p i+(uL i (el p.rules i) m).length<(au p).length/\el (au p) (nU p i+(uL i (el p.rules i) m).length)=⟨3,i,(el (el p.rules i).body m).pred,(el (el p.rules i).body m).args.length⟩:=by
 refine Dh h ?_;have:=Jv i (el p.rules i) (show m+1<=_ from hm);rw [uL,if_neg hk] at this;exact this
theorem QN {i:Nat} {r:Rl} {m:Nat} (hk:(el r.body m).kind=3):(uL i r (m+1)).length=(uL i r m).length:=by rw [uL,if_pos hk,List.append_nil]
theorem QZ {i:Nat} {r:Rl} {m:Nat} (hk:¬ (el r.body m).kind=3):(uL i r (m+1)).length=(uL i r m).length+1:=by rw [uL,if_neg hk,List.length_append];rfl
theorem GR (p:Pg):(au p).length=nU p p.rules.length:=by unfold au nU;rw [List.length_append]
theorem Sj (p:Pg):nU p 0=(uI p p.ins.length).length+(uO p p.outs.length).length:=by unfold nU;rw [uR,List.length_append];rfl
theorem RuB.room {z:Rx} (h:RuB z.r):z.ha.length<=4398046511104/\z.rows.length<=4398046511104/\∀ q,q<z.rows.length->(el z.rows q).1.args.length<=4398046511104:=by
 obtain ⟨_,h2,_,h4,h5⟩:=h;have e:z.r.body.length=z.rows.length:=List.length_map _;refine ⟨Nat.le_trans h2 (by decide),by omega,λq hq=>?_⟩;have:=(h5 _ (List.mem_map.2 ⟨_,ak hq,rfl⟩)).2.1;omega
theorem oF {x:Px} {i:Nat} (h:i<x.rules.length):el x.p.rules i=(el x.rules i).r:=fI h
theorem xQ {z:Rx} {m:Nat} (h:m<z.rows.length):el z.r.body m=(el z.rows m).1:=fI h
theorem O6 {x:Px} {i:Nat} (h:i<x.ins.length):(uI x.p i).length<(au x.p).length/\el (au x.p) (uI x.p i).length=⟨1,i,(el x.ins i).1,(el x.ins i).2.1⟩:=I4 (p:=x.p) h
theorem Kg {x:Px} {i:Nat} (h:i<x.outs.length):(uI x.p x.ins.length).length+(uO x.p i).length<(au x.p).length/\el (au x.p) ((uI x.p x.ins.length).length+(uO x.p i).length)=⟨2,i,(el x.outs i).1,(el x.outs i).2⟩:=Bk (p:=x.p) h
theorem gY (x:Px):x.p.rules.length=x.rules.length:=List.length_map _
theorem I9 {x:Px} {k:Nat} (h:k<x.rules.length):nU x.p k<(au x.p).length/\el (au x.p) (nU x.p k)=⟨3,k,(el x.rules k).hp,(el x.rules k).ha.length⟩:=by
 have:=vZ (p:=x.p) (i:=k) (by rw [gY];exact h);rw [oF h] at this;exact this
theorem Il {x:Px} {k m:Nat} (h:k<x.rules.length) (hm:m<(el x.rules k).rows.length) (hk:¬ (el (el x.rules k).rows m).1.kind=3):nU x.p k+(uL k (el x.rules k).r m).length<(au x.p).length/\el (au x.p) (nU x.p k+(uL k (el x.rules k).r m).length)=⟨3,k,(el (el x.rules k).rows m).1.pred,(el (el x.rules k).rows m).1.args.length⟩:=by
 have:=wX (p:=x.p) (i:=k) (m:=m) (by rw [gY];exact h) (by rw [oF h];show _<(List.map _ _).length;rw [List.length_map];exact hm) (by rw [oF h,xQ hm];exact hk);rw [oF h,xQ hm] at this;exact this
theorem Nq {z:Rx} {i m:Nat} (hm:m<z.rows.length) (hk:(el z.rows m).1.kind=3):(uL i z.r (m+1)).length=(uL i z.r m).length:=QN (by rw [xQ hm];exact hk)
theorem M3 {z:Rx} {i m:Nat} (hm:m<z.rows.length) (hk:¬ (el z.rows m).1.kind=3):(uL i z.r (m+1)).length=(uL i z.r m).length+1:=QZ (by rw [xQ hm];exact hk)
theorem Ht {x:Px} {k:Nat} (h:k<x.rules.length):nU x.p (k+1)=nU x.p k+(uL k (el x.rules k).r (el x.rules k).rows.length).length:=by
 rw [LA,oF h,show (el x.rules k).r.body.length=(el x.rules k).rows.length from List.length_map _]
theorem Qh (x:Px):nU x.p 0=(uI x.p x.ins.length).length+(uO x.p x.outs.length).length:=Sj x.p
theorem FB (p:Pg) (i:Nat):(uI p (i+1)).length=(uI p i).length+1:=List.length_append
theorem IE (p:Pg) (i:Nat):(uO p (i+1)).length=(uO p i).length+1:=List.length_append
theorem EE (x:Px):(au x.p).length=nU x.p x.rules.length:=by rw [GR,gY]
abbrev Ro:=ByteArray × Int × Bool × Int × Int × Int × Int
def rQ (r:Ro):List Value:=[.string r.1,.int .i64 r.2.1,.bool r.2.2.1,.int .i64 r.2.2.2.1,.int .i64 r.2.2.2.2.1,.int .i64 r.2.2.2.2.2.1,.int .i64 r.2.2.2.2.2.2]
def qF (r:Ro):Value:=.agg #[.string r.1,.int .i64 r.2.1,.bool r.2.2.1,.int .i64 r.2.2.2.1,.int .i64 r.2.2.2.2.1,.int .i64 r.2.2.2.2.2.1,.int .i64 r.2.2.2.2.2.2]
abbrev aZ:Ro:=(ByteArray.empty,0,false,0,0,0,0)
def bU (us:List Use) (s:ByteArray):Option Int:=(us.find? λu=>decide (u.pr=s)).map (·.ar)
theorem uU {us:List Use} {u:Use} {s:ByteArray}:bU (us++[u]) s=(bU us s).or (if u.pr=s then some u.ar else none):=by
 unfold bU;rw [List.find?_append]
 cases h:us.find? λu=>decide (u.pr=s) with
 | some x=>simp
 | none=>by_cases e:u.pr=s <;> simp [e]
theorem vG {us:List Use} {k:Nat} {s:ByteArray} {a:Int} (h:bU (us.take k) s=some a):bU us s=some a:=by
 unfold bU at h ⊢;rw [← List.take_append_drop k us,List.find?_append]
 cases h2:(us.take k).find? λu=>decide (u.pr=s) with
 | some x=>rw [h2] at h;simpa using h
 | none=>rw [h2] at h;cases h
def FK (us:List Use) (k:Nat):Prop:=∀ q,q<k->bU us (el us q).pr=some (el us q).ar
instance (us:List Use) (k:Nat):Decidable (FK us k):=by unfold FK;exact inferInstance
def JA (us:List Use):Prop:=FK us us.length
instance (us:List Use):Decidable (JA us):=by unfold JA;exact inferInstance
def RI (us:List Use) (k:Nat) (f:ByteArray->Option Ro) (n:Nat):Prop:=n<=k/\FK us k/\∀ s,f s=(bU (us.take k) s).map λa=>(s,a,false,0,0,0,0)
theorem RI.nil {us:List Use}:RI us 0 (λ_=>none) 0:=⟨Nat.le_refl _,λ_ h=>absurd h (Nat.not_lt_zero _),λ_=>rfl⟩
theorem RI.step {us:List Use} {k:Nat} {f:ByteArray->Option Ro} {n:Nat} (h:RI us k f n) (hk:k<us.length) (hc:¬ ((f (el us k).pr).isSome=true/\((f (el us k).pr).getD aZ).2.1≠(el us k).ar)) :
  RI us (k+1) (λy0=>if y0=(el us k).pr then some ((el us k).pr,(el us k).ar,((f (el us k).pr).getD aZ).2.2.1,((f (el us k).pr).getD aZ).2.2.2.1,((f (el us k).pr).getD aZ).2.2.2.2.1,((f (el us k).pr).getD aZ).2.2.2.2.2.1,((f (el us k).pr).getD aZ).2.2.2.2.2.2) else f y0) (n+1):=by
 obtain ⟨h1,h2,h3⟩:=h;have ht:us.take (k+1)=us.take k++[el us k]:=eG hk;have hf:=h3 (el us k).pr
 have hl:bU (us.take (k+1)) (el us k).pr=some (el us k).ar:=by
  rw [ht,uU]
  cases e:bU (us.take k) (el us k).pr with
  | none=>simp
  | some a=>
   rw [e] at hf
   rw [hf] at hc
   have:a=(el us k).ar:=Decidable.of_not_not λq=>hc ⟨rfl,q⟩
   rw [this];rfl
 refine ⟨by omega,λq hq=>?_,λs=>?_⟩
 .rcases Nat.lt_or_ge q k with h | h
  .exact h2 q h
  .rw [show q=k by omega];exact vG hl
 .dsimp only
  by_cases e:s=(el us k).pr
  .subst e;rw [if_pos rfl,hl,hf];cases bU (us.take k) (el us k).pr <;> rfl
  .rw [if_neg e,h3,ht,uU,if_neg (λq=>e q.symm)];cases bU (us.take k) s <;> rfl
theorem RI.clash {us:List Use} {k:Nat} {f:ByteArray->Option Ro} {n:Nat} (h:RI us k f n) (hk:k<us.length) (h1:(f (el us k).pr).isSome=true) (h2:((f (el us k).pr).getD aZ).2.1≠(el us k).ar):¬ JA us:=by
 intro ha;have hf:=h.2.2 (el us k).pr
 cases e:bU (us.take k) (el us k).pr with
 | none=>rw [e] at hf;rw [hf] at h1;cases h1
 | some a=>
  rw [e] at hf
  rw [hf] at h2
  have:=(vG e).symm.trans (ha k hk)
  injection this with this
  exact h2 this
theorem MC {i:Nat} {r:Rl}:∀ {m:Nat} {u:Use},u ∈ uL i r m->u.kd≠0
 | 0,u,h=>by
  rw [uL,List.mem_singleton] at h;subst h;exact Nat.succ_ne_zero 2
 | m+1,u,h=>by
  rw [uL] at h
  rcases List.mem_append.1 h with h | h
  .exact MC h
  .split at h
   .cases h
   .rw [List.mem_singleton] at h;subst h;exact Nat.succ_ne_zero 2
theorem M6 {p:Pg}:∀ {k:Nat} {u:Use},u ∈ uI p k->u.kd≠0
 | 0,_,h=>by cases h
 | k+1,u,h=>by
  rw [uI] at h
  rcases List.mem_append.1 h with h | h
  .exact M6 h
  .rw [List.mem_singleton] at h;subst h;exact Nat.succ_ne_zero 0
theorem M0 {p:Pg}:∀ {k:Nat} {u:Use},u ∈ uO p k->u.kd≠0
 | 0,_,h=>by cases h
 | k+1,u,h=>by
  rw [uO] at h
  rcases List.mem_append.1 h with h | h
  .exact M0 h
  .rw [List.mem_singleton] at h;subst h;exact Nat.succ_ne_zero 1
theorem M8 {p:Pg}:∀ {k:Nat} {u:Use},u ∈ uR p k->u.kd≠0
 | 0,_,h=>by cases h
 | k+1,u,h=>by
  rw [uR] at h
  rcases List.mem_append.1 h with h | h
  .exact M8 h
  .exact MC h
theorem Mg {p:Pg} {k:Nat} (h:k<(au p).length):(el (au p) k).kd≠0:=by
 have:=ak h;unfold au at this ⊢
 rcases List.mem_append.1 this with h | h
 .rcases List.mem_append.1 h with h | h
  .exact M6 h
  .exact M0 h
 .exact M8 h
def cI (p:Pg) (s:ByteArray):Nat->Nat
 | 0=>0
 | k+1=>cI p s k+if (el p.ins k).1=s then 1 else 0
def cO (p:Pg) (s:ByteArray):Nat->Nat
 | 0=>0
 | k+1=>cO p s k+if (el p.outs k).1=s then 1 else 0
def cF (p:Pg) (s:ByteArray):Nat->Nat
 | 0=>0
 | k+1=>cF p s k+if (el p.rules k).hp=s/\(el p.rules k).body.length=0 then 1 else 0
def cD (p:Pg) (s:ByteArray):Nat->Nat
 | 0=>0
 | k+1=>cD p s k+if (el p.rules k).hp=s/\(el p.rules k).body.length≠0 then 1 else 0
theorem H6 (p:Pg) (s:ByteArray):∀ k,cI p s k<=k
 | 0=>Nat.le_refl _
 | k+1=>by have:=H6 p s k;rw [cI];split <;> omega
theorem Hf (p:Pg) (s:ByteArray):∀ k,cO p s k<=k
 | 0=>Nat.le_refl _
 | k+1=>by have:=Hf p s k;rw [cO];split <;> omega
theorem Jj (p:Pg) (s:ByteArray):∀ k,cF p s k<=k
 | 0=>Nat.le_refl _
 | k+1=>by have:=Jj p s k;rw [cF];split <;> omega
theorem JE (p:Pg) (s:ByteArray):∀ k,cD p s k<=k
 | 0=>Nat.le_refl _
 | k+1=>by have:=JE p s k;rw [cD];split <;> omega
def Rst (p:Pg) (i j k:Nat) (f:ByteArray->Option Ro):Prop:=∀ s,f s=(bU (au p) s).map λa=>(s,a,decide (cD p s k≠0),(cI p s i:Int),(cO p s j:Int),(cF p s k:Int),(cD p s k:Int))
theorem RI.rst {p:Pg} {f:ByteArray->Option Ro} {n:Nat} (h:RI (au p) (au p).length f n):Rst p 0 0 0 f:=by
 intro s;rw [h.2.2 s,List.take_length];rfl
theorem lJ {us:List Use} {k:Nat} (h:k<us.length):∃ a,bU us (el us k).pr=some a:=by
 unfold bU
 cases e:us.find? λu=>decide (u.pr=(el us k).pr) with
 | some x=>exact ⟨_,rfl⟩
 | none=>exact absurd (List.find?_eq_none.1 e _ (ak h)) (by simp)
theorem oo {p:Pg} {i:Nat} (h:i<p.ins.length):∃ a,bU (au p) (el p.ins i).1=some a:=by
 have:=lJ (I4 h).1;rw [(I4 h).2] at this;exact this
theorem DR {p:Pg} {i:Nat} (h:i<p.outs.length):∃ a,bU (au p) (el p.outs i).1=some a:=by
 have:=lJ (Bk h).1;rw [(Bk h).2] at this;exact this
theorem o6 {p:Pg} {i:Nat} (h:i<p.rules.length):∃ a,bU (au p) (el p.rules i).hp=some a:=by
 have:=lJ (vZ h).1;rw [(vZ h).2] at this;exact this
theorem Rst.get {p:Pg} {i j k:Nat} {f:ByteArray->Option Ro} (h:Rst p i j k f) {s:ByteArray} (hs:∃ a,bU (au p) s=some a):∃ a,f s=some (s,a,decide (cD p s k≠0),(cI p s i:Int),(cO p s j:Int),(cF p s k:Int),(cD p s k:Int)):=by
 obtain ⟨a,ha⟩:=hs;exact ⟨a,by rw [h s,ha];rfl⟩
def Hq (r:Ro):Ro:=(r.1,r.2.1,r.2.2.1,r.2.2.2.1+1,r.2.2.2.2.1,r.2.2.2.2.2.1,r.2.2.2.2.2.2)
def Gt (r:Ro):Ro:=(r.1,r.2.1,r.2.2.1,r.2.2.2.1,r.2.2.2.2.1+1,r.2.2.2.2.2.1,r.2.2.2.2.2.2)
def Tn (r:Ro):Ro:=(r.1,r.2.1,r.2.2.1,r.2.2.2.1,r.2.2.2.2.1,r.2.2.2.2.2.1+1,r.2.2.2.2.2.2)
def SK (r:Ro):Ro:=(r.1,r.2.1,true,r.2.2.2.1,r.2.2.2.2.1,r.2.2.2.2.2.1,r.2.2.2.2.2.2+1)
def Fl (b:Bool) (r:Ro):Ro:=if b then Tn r else SK r
def pK (f:ByteArray->Option Ro) (s:ByteArray) (g:Ro->Ro):ByteArray->Option Ro:=λy0=>if y0=s then some (g ((f s).getD aZ)) else f y0
theorem Rst.ins {p:Pg} {i j k:Nat} {f:ByteArray->Option Ro} (h:Rst p i j k f) (hi:i<p.ins.length):Rst p (i+1) j k (pK f (el p.ins i).1 Hq):=by
 intro s;unfold pK
 by_cases e:s=(el p.ins i).1
 .obtain ⟨a,ha⟩:=oo hi;obtain ⟨b,hb⟩:=h.get ⟨a,ha⟩;have hb2:=h (el p.ins i).1;rw [ha] at hb2;rw [if_pos e,hb2,e,ha,cI,if_pos rfl];rfl
 .rw [if_neg e,h s,cI,if_neg (λq=>e q.symm)];rfl
theorem Rst.outs {p:Pg} {i j k:Nat} {f:ByteArray->Option Ro} (h:Rst p i j k f) (hj:j<p.outs.length):Rst p i (j+1) k (pK f (el p.outs j).1 Gt):=by
 intro s;unfold pK
 by_cases e:s=(el p.outs j).1
 .obtain ⟨a,ha⟩:=DR hj;have hb2:=h (el p.outs j).1;rw [ha] at hb2;rw [if_pos e,hb2,e,ha,cO,if_pos rfl];rfl
 .rw [if_neg e,h s,cO,if_neg (λq=>e q.symm)];rfl
theorem Rst.rule {p:Pg} {i j k:Nat} {f:ByteArray->Option Ro} (h:Rst p i j k f) (hk:k<p.rules.length):Rst p i j (k+1) (pK f (el p.rules k).hp (Fl (decide ((el p.rules k).body.length=0)))):=by
 intro s;unfold pK
 by_cases e:s=(el p.rules k).hp
 .obtain ⟨a,ha⟩:=o6 hk;have hb2:=h (el p.rules k).hp;rw [ha] at hb2;rw [if_pos e,hb2,e,ha]
  by_cases hz:(el p.rules k).body.length=0
  .have e1:cF p (el p.rules k).hp (k+1)=cF p (el p.rules k).hp k+1:=by rw [cF,if_pos ⟨rfl,hz⟩]
   have e2:cD p (el p.rules k).hp (k+1)=cD p (el p.rules k).hp k:=by rw [cD,if_neg (λq=>q.2 hz)];rfl
   rw [e1,e2,decide_eq_true hz];rfl
  .have e1:cF p (el p.rules k).hp (k+1)=cF p (el p.rules k).hp k:=by rw [cF,if_neg (λq=>hz q.2)];rfl
   have e2:cD p (el p.rules k).hp (k+1)=cD p (el p.rules k).hp k+1:=by rw [cD,if_pos ⟨rfl,hz⟩]
   rw [e1,e2,decide_eq_false hz];simp [Fl,SK]
 .have e1:cF p s (k+1)=cF p s k:=by rw [cF,if_neg (λq=>e q.1.symm)];rfl
  have e2:cD p s (k+1)=cD p s k:=by rw [cD,if_neg (λq=>e q.1.symm)];rfl
  rw [if_neg e,h s,e1,e2]
def y9 (p:Pg):Prop:=(∃ i,i<p.ins.length/\cD p (el p.ins i).1 p.rules.length≠0)\/∃ k,k<p.rules.length/\(el p.rules k).body.length=0/\cD p (el p.rules k).hp p.rules.length≠0
instance (p:Pg):Decidable (y9 p):=by unfold y9;exact inferInstance
def aA (p:Pg):Nat:=if ¬ FmP p then 2 else if ¬ JA (au p) then 12 else if y9 p then 13 else 0
theorem tM {p:Pg} (h:¬ FmP p):aA p=2:=if_pos h
theorem uA {p:Pg} (h:FmP p) (h2:¬ JA (au p)):aA p=12:=by rw [aA,if_neg (not_not_intro h),if_pos h2]
theorem lH {p:Pg} (h:FmP p) (h2:JA (au p)) (h3:y9 p):aA p=13:=by rw [aA,if_neg (not_not_intro h),if_neg (not_not_intro h2),if_pos h3]
theorem yG {p:Pg} (h:FmP p) (h2:JA (au p)) (h3:¬ y9 p):aA p=0:=by rw [aA,if_neg (not_not_intro h),if_neg (not_not_intro h2),if_neg h3]
theorem DF (p:Pg):∀ k,(uI p k).length=k
 | 0=>rfl
 | k+1=>by rw [FB,DF p k]
theorem Gm (p:Pg):∀ k,(uO p k).length=k
 | 0=>rfl
 | k+1=>by rw [IE,Gm p k]
theorem LX (i:Nat) (r:Rl):∀ m,(uL i r m).length<=m+1
 | 0=>Nat.le_refl _
 | m+1=>by
  have:=LX i r m
  by_cases h:(el r.body m).kind=3
  .rw [QN h];omega
  .rw [QZ h];omega
theorem Ot {p:Pg} (h:PgB p):∀ k,k<=p.rules.length->(uR p k).length<=k * 1048577
 | 0,_=>Nat.le_refl _
 | k+1,hk=>by
  have h1:=Ot h k (by omega);have h2:=LX k (el p.rules k) (el p.rules k).body.length;have h3:=(h.2.2.2.2.2 _ (ak (xs:=p.rules) (i:=k) (by omega))).2.2.2.1;have e:(uR p (k+1)).length=(uR p k).length+(uL k (el p.rules k) (el p.rules k).body.length).length:=List.length_append;omega
theorem rX {p:Pg} (h:PgB p):(au p).length<=1200000000000:=by
 have h1:=Ot h p.rules.length (Nat.le_refl _);have h2:=h.1;have h3:=h.2.1;have h4:=h.2.2.1;have e:(au p).length=(uI p p.ins.length).length+(uO p p.outs.length).length+(uR p p.rules.length).length:=by unfold au;rw [List.length_append,List.length_append]
 rw [DF,Gm] at e;have:p.rules.length * 1048577<=1048576 * 1048577:=Nat.mul_le_mul_right _ h4;omega
theorem Qz {i:Nat} {r:Rl} (h:RuB r):∀ {m:Nat},m<=r.body.length->∀ u ∈ uL i r m,u.pr.size<=1048576
 | 0,_,u,hu=>by
  rw [uL,List.mem_singleton] at hu;subst hu;exact h.1
 | m+1,hm,u,hu=>by
  rw [uL] at hu
  rcases List.mem_append.1 hu with hu | hu
  .exact Qz h (by omega) u hu
  .split at hu
   .cases hu
   .rw [List.mem_singleton] at hu;subst hu;exact (h.2.2.2.2 _ (ak (xs:=r.body) (i:=m) (by omega))).1
theorem P6 {p:Pg} (h:PgB p):∀ {k:Nat},k<=p.ins.length->∀ u ∈ uI p k,u.pr.size<=1048576
 | 0,_,_,hu=>by cases hu
 | k+1,hk,u,hu=>by
  rw [uI] at hu
  rcases List.mem_append.1 hu with hu | hu
  .exact P6 h (by omega) u hu
  .rw [List.mem_singleton] at hu;subst hu;exact (h.2.2.2.1 _ (ak (xs:=p.ins) (i:=k) (by omega))).1
theorem Qj {p:Pg} (h:PgB p):∀ {k:Nat},k<=p.outs.length->∀ u ∈ uO p k,u.pr.size<=1048576
 | 0,_,_,hu=>by cases hu
 | k+1,hk,u,hu=>by
  rw [uO] at hu
  rcases List.mem_append.1 hu with hu | hu
  .exact Qj h (by omega) u hu
  .rw [List.mem_singleton] at hu;subst hu;exact h.2.2.2.2.1 _ (ak (xs:=p.outs) (i:=k) (by omega))
theorem Qq {p:Pg} (h:PgB p):∀ {k:Nat},k<=p.rules.length->∀ u ∈ uR p k,u.pr.size<=1048576
 | 0,_,_,hu=>by cases hu
 | k+1,hk,u,hu=>by
  rw [uR] at hu
  rcases List.mem_append.1 hu with hu | hu
  .exact Qq h (by omega) u hu
  .exact Qz (h.2.2.2.2.2 _ (ak (xs:=p.rules) (i:=k) (by omega))) (Nat.le_refl _) u hu
theorem Ak {p:Pg} (h:PgB p):∀ u ∈ au p,u.pr.size<=1048576:=by
 intro u hu;unfold au at hu
 rcases List.mem_append.1 hu with hu | hu
 .rcases List.mem_append.1 hu with hu | hu
  .exact P6 h (Nat.le_refl _) u hu
  .exact Qj h (Nat.le_refl _) u hu
 .exact Qq h (Nat.le_refl _) u hu
def SN (z:Ro):Prop:=0<=z.2.2.2.1/\z.2.2.2.1<4611686018427387904/\0<=z.2.2.2.2.1/\z.2.2.2.2.1<4611686018427387904/\0<=z.2.2.2.2.2.1/\z.2.2.2.2.2.1<4611686018427387904/\0<=z.2.2.2.2.2.2/\z.2.2.2.2.2.2<4611686018427387904
theorem Rst.room {p:Pg} {i j k:Nat} {f:ByteArray->Option Ro} (h:Rst p i j k f) (hi:i<=1048576) (hj:j<=1048576) (hk:k<=1048576) (s:ByteArray):SN ((f s).getD aZ):=by
 have c1:=H6 p s i;have c2:=Hf p s j;have c3:=Jj p s k;have c4:=JE p s k;rw [h s]
 cases bU (au p) s with
 | none=>
  show SN aZ
  exact ⟨by decide,by decide,by decide,by decide,by decide,by decide,by decide,by decide⟩
 | some a=>
  refine ⟨?_,?_,?_,?_,?_,?_,?_,?_⟩ <;> simp only [Option.map_some,Option.getD_some] <;> omega
theorem Rst.ruleX {x:Px} {i j k:Nat} {f:ByteArray->Option Ro} (h:Rst x.p i j k f) (hk:k<x.rules.length):Rst x.p i j (k+1) (pK f (el x.rules k).hp (Fl (decide ((el x.rules k).rows.length=0)))):=by
 have:=h.rule (by rw [gY];exact hk);rw [oF hk,show (el x.rules k).r.body.length=(el x.rules k).rows.length from List.length_map _] at this;exact this
theorem Rst.idb {p:Pg} {i j k:Nat} {f:ByteArray->Option Ro} (h:Rst p i j k f) {s:ByteArray} (hs:∃ a,bU (au p) s=some a):((f s).getD aZ).2.2.1=true↔cD p s k≠0:=by
 obtain ⟨a,ha⟩:=h.get hs;rw [ha];exact decide_eq_true_iff
theorem jC {x:Px} {k:Nat} (h:k<x.rules.length):∃ a,bU (au x.p) (el x.rules k).hp=some a:=by
 have:=o6 (p:=x.p) (i:=k) (by rw [gY];exact h);rw [oF h] at this;exact this
def NoI (p:Pg) (i:Nat):Prop:=∀ q,q<i->cD p (el p.ins q).1 p.rules.length=0
def NoF (x:Px) (k:Nat):Prop:=∀ q,q<k->(el x.rules q).rows.length=0->cD x.p (el x.rules q).hp x.rules.length=0
theorem NoI.zero {p:Pg}:NoI p 0:=λ_ h=>absurd h (Nat.not_lt_zero _)
theorem NoF.zero {x:Px}:NoF x 0:=λ_ h=>absurd h (Nat.not_lt_zero _)
theorem yQ {x:Px} (h1:NoI x.p x.ins.length) (h2:NoF x x.rules.length):¬ y9 x.p:=by
 rintro (⟨i,hi,h⟩ | ⟨k,hk,hb,h⟩)
 .exact h (h1 i hi)
 .rw [gY] at hk h;rw [oF hk] at hb h;exact h (h2 k hk (by rw [← hb];exact (List.length_map _).symm))
theorem w9 {x:Px} {i:Nat} (hi:i<x.ins.length) (h:cD x.p (el x.ins i).1 x.rules.length≠0):y9 x.p:=.inl ⟨i,hi,by rw [gY];exact h⟩
theorem xm {x:Px} {k:Nat} (hk:k<x.rules.length) (hb:(el x.rules k).rows.length=0) (h:cD x.p (el x.rules k).hp x.rules.length≠0):y9 x.p:=
 .inr ⟨k,by rw [gY];exact hk,by rw [oF hk,← hb];exact List.length_map _,by rw [oF hk,gY];exact h⟩
theorem PgB.hp {x:Px} (h:PgB x.p) {k:Nat} (hk:k<x.rules.length):(el x.rules k).hp.size<=1048576:=(h.rule hk).1
def dL (r:Rl):Nat->List Dp
 | 0=>[]
 | m+1=>dL r m++(if (el r.body m).kind=3 then [] else [(r.hp,(el r.body m).pred,decide ((el r.body m).kind=2))])
def dR (p:Pg):Nat->List Dp
 | 0=>[]
 | k+1=>dR p k++dL (el p.rules k) (el p.rules k).body.length
def kQ (p:Pg):List Dp:=dR p p.rules.length
def inM {β:Type} [DecidableEq β] (xs:List β) (f:β->Option Bool):Prop:=∀ d,f d=if d ∈ xs then some true else none
theorem inM.nil {β:Type} [DecidableEq β]:inM ([]:List β) (λ_=>none):=λd=>by rw [if_neg (by simp)]
theorem inM.put {β:Type} [DecidableEq β] {xs:List β} {f:β->Option Bool} (h:inM xs f) (d:β):inM (xs++[d]) (λy0=>if y0=d then some true else f y0):=by
 intro y
 by_cases e:y=d
 .subst e;simp
 .dsimp only;rw [if_neg e,h y];simp [e]
theorem Ey {z:Rx} {m:Nat} (hm:m<z.rows.length) (hk:¬ (el z.rows m).1.kind≠3):dL z.r (m+1)=dL z.r m:=by
 rw [dL,xQ hm,if_pos (Decidable.of_not_not hk),List.append_nil]
theorem D6 {z:Rx} {m:Nat} (hm:m<z.rows.length) (hk:(el z.rows m).1.kind≠3):dL z.r (m+1)=dL z.r m++[(z.hp,(el z.rows m).1.pred,decide ((el z.rows m).1.kind=2))]:=by
 rw [dL,xQ hm,if_neg hk];rfl
theorem OH {x:Px} {k:Nat} (h:k<x.rules.length):dR x.p (k+1)=dR x.p k++dL (el x.rules k).r (el x.rules k).rows.length:=by
 rw [dR,oF h,show (el x.rules k).r.body.length=(el x.rules k).rows.length from List.length_map _]
theorem Pm (r:Rl):∀ m,(dL r m).length<=m
 | 0=>Nat.le_refl _
 | m+1=>by have:=Pm r m;rw [dL,List.length_append];split <;> simp <;> omega
theorem Pp {p:Pg} (h:PgB p):∀ k,k<=p.rules.length->(dR p k).length<=k * 1048576
 | 0,_=>Nat.le_refl _
 | k+1,hk=>by
  have h1:=Pp h k (by omega);have h2:=Pm (el p.rules k) (el p.rules k).body.length;have h3:=(h.2.2.2.2.2 _ (ak (xs:=p.rules) (i:=k) (by omega))).2.2.2.1;have e:(dR p (k+1)).length=(dR p k).length+(dL (el p.rules k) (el p.rules k).body.length).length:=List.length_append;omega
theorem PU {x:Px} (h:PgB x.p) {k m:Nat} (hk:k<x.rules.length) (hm:m<=(el x.rules k).rows.length):(dR x.p k++dL (el x.rules k).r m).length<=1099511627776:=by
 have h1:=Pp h k (by rw [gY];omega);have h2:=Pm (el x.rules k).r m;have h3:=(h.rule hk).2.2.2.1;have e:(el x.rules k).r.body.length=(el x.rules k).rows.length:=List.length_map _;have h4:=h.2.2.1;rw [gY] at h4;have h5:(k+1) * 1048576<=1048576 * 1048576:=Nat.mul_le_mul_right _ (by omega);rw [List.length_append];omega
theorem BG {x:Px} (h:PgB x.p):(dR x.p x.rules.length).length<=1099511627776:=by
 have h1:=Pp h x.rules.length (by rw [gY];omega);have h4:=h.2.2.1;rw [gY] at h4;have h5:x.rules.length * 1048576<=1048576 * 1048576:=Nat.mul_le_mul_right _ h4;omega
theorem nT (x:Px):kQ x.p=dR x.p x.rules.length:=by unfold kQ;rw [gY]
theorem QU {r:Rl} (h:RuB r):∀ {m:Nat},m<=r.body.length->∀ d ∈ dL r m,d.1.size<=1048576/\d.2.1.size<=1048576
 | 0,_,_,hd=>by cases hd
 | m+1,hm,d,hd=>by
  rw [dL] at hd
  rcases List.mem_append.1 hd with hd | hd
  .exact QU h (by omega) d hd
  .split at hd
   .cases hd
   .rw [List.mem_singleton] at hd;subst hd;exact ⟨h.1,(h.2.2.2.2 _ (ak (xs:=r.body) (i:=m) (by omega))).1⟩
theorem MS {p:Pg} (h:PgB p):∀ {k:Nat},k<=p.rules.length->∀ d ∈ dR p k,d.1.size<=1048576/\d.2.1.size<=1048576
 | 0,_,_,hd=>by cases hd
 | k+1,hk,d,hd=>by
  rw [dR] at hd
  rcases List.mem_append.1 hd with hd | hd
  .exact MS h (by omega) d hd
  .exact QU (h.2.2.2.2.2 _ (ak (xs:=p.rules) (i:=k) (by omega))) (Nat.le_refl _) d hd
theorem Fv {p:Pg} (h:PgB p):∀ d ∈ kQ p,d.1.size<=1048576/\d.2.1.size<=1048576:=MS h (Nat.le_refl _)
end Go.Proofs.YtljfgmedbjlkaaaGreat
