/- A lean reckoner for closed runs: numbers as paths, tables, values. Over any program. -/
import Derived.WalkKit
import Derived.Test.YtljfgmedbjlkaaaGreatEB
namespace Go.Lk
inductive P where
 | z
 | l (p:P)
 | r (p:P)
 deriving DecidableEq
noncomputable def P.succ (p:P):P:=P.rec (.l .z) (λp _=>.r p) (λ_ ih=>.l ih) p
def P.num:P->Nat
 | .z=>0
 | .l p=>2 * p.num+1
 | .r p=>2 * p.num+2
theorem P.num_succ (p:P):p.succ.num=p.num+1:=by
 induction p with
 | z=>rfl
 | l p _=>show 2 * p.num+2=_;simp [P.num]
 | r p ih=>show 2 * p.succ.num+1=_;rw [ih];simp [P.num];omega
inductive T (α:Type) where
 | e
 | n (v:Option α) (l r:T α)
section
variable {α:Type}
noncomputable def T.get (p:P):T α->Option α:=
 P.rec (λt=>T.rec none (λv _ _ _ _=>v) t) (λ_ ih t=>T.rec none (λ_ l _ _ _=>ih l) t) (λ_ ih t=>T.rec none (λ_ _ r _ _=>ih r) t) p
noncomputable def T.put (x:Option α) (p:P):T α->T α:=
 P.rec (λt=>T.rec (.n x .e .e) (λ_ l r _ _=>.n x l r) t) (λ_ ih t=>T.rec (.n none (ih .e) .e) (λv l r _ _=>.n v (ih l) r) t)
  (λ_ ih t=>T.rec (.n none .e (ih .e)) (λv l r _ _=>.n v l (ih r)) t) p
@[simp] theorem T.get_e (p:P):T.get p (.e:T α)=none:=by cases p <;> rfl
theorem T.get_put (x:Option α) (p q:P) (t:T α):T.get q (T.put x p t)=if q=p then x else T.get q t:=by
 induction p generalizing q t with
 | z=>
  cases t with
  | e=>cases q with
   | z=>rfl
   | l q=>show T.get q .e=_;simp
   | r q=>show T.get q .e=_;simp
  | n v l r=>cases q <;> simp <;> rfl
 | l p ih=>
  cases t with
  | e=>
   cases q with
   | z=>simp [T.get,T.put]
   | l q=>show T.get q (T.put x p .e)=_;rw [ih];simp
   | r q=>show T.get q .e=_;simp
  | n v l r=>
   cases q with
   | z=>simp [T.get,T.put]
   | l q=>show T.get q (T.put x p l)=_;rw [ih];simp;rfl
   | r q=>show T.get q r=_;simp;rfl
 | r p ih=>
  cases t with
  | e=>
   cases q with
   | z=>simp [T.get,T.put]
   | r q=>show T.get q (T.put x p .e)=_;rw [ih];simp
   | l q=>show T.get q .e=_;simp
  | n v l r=>
   cases q with
   | z=>simp [T.get,T.put]
   | r q=>show T.get q (T.put x p r)=_;rw [ih];simp;rfl
   | l q=>show T.get q l=_;simp;rfl
theorem T.get_put_same (x:Option α) (p:P) (t:T α):T.get p (T.put x p t)=x:=by rw [T.get_put,if_pos rfl]
theorem T.get_put_ne (x:Option α) {p q:P} (h:q≠p) (t:T α):T.get q (T.put x p t)=T.get q t:=by rw [T.get_put,if_neg h]
noncomputable def T.set (x:α) (p:P):T α->T α:=
 P.rec (λt=>T.rec .e (λv l r _ _=>.n (Option.rec none (λ_=>some x) v) l r) t) (λ_ ih t=>T.rec .e (λv l r _ _=>.n v (ih l) r) t) (λ_ ih t=>T.rec .e (λv l r _ _=>.n v l (ih r)) t) p
theorem T.get_set (x:α) (p q:P) (t:T α):T.get q (T.set x p t)=if q=p then (T.get q t).map λ_=>x else T.get q t:=by
 induction p generalizing q t with
 | z=>
  cases t with
  | e=>show T.get q .e=_;simp
  | n v l r=>cases q <;> simp <;> cases v <;> rfl
 | l p ih=>
  cases t with
  | e=>show T.get q .e=_;simp
  | n v l r=>
   cases q with
   | z=>simp [T.get,T.set]
   | l q=>show T.get q (T.set x p l)=_;rw [ih];simp;rfl
   | r q=>show T.get q r=_;simp;rfl
 | r p ih=>
  cases t with
  | e=>show T.get q .e=_;simp
  | n v l r=>
   cases q with
   | z=>simp [T.get,T.set]
   | r q=>show T.get q (T.set x p r)=_;rw [ih];simp;rfl
   | l q=>show T.get q l=_;simp;rfl
end
noncomputable def P.beq (p:P):P->Bool:=
 P.rec (λq=>P.rec true (λ_ _=>false) (λ_ _=>false) q) (λ_ ih q=>P.rec false (λq _=>ih q) (λ_ _=>false) q) (λ_ ih q=>P.rec false (λ_ _=>false) (λq _=>ih q) q) p
theorem P.beq_iff (p q:P):P.beq p q=true↔p=q:=by
 induction p generalizing q with
 | z=>cases q <;> simp [P.beq]
 | l p ih=>cases q with
  | z=>simp [P.beq]
  | l q=>show P.beq p q=true↔_;rw [ih];simp
  | r q=>simp [P.beq]
 | r p ih=>cases q with
  | z=>simp [P.beq]
  | r q=>show P.beq p q=true↔_;rw [ih];simp
  | l q=>simp [P.beq]
noncomputable def aB (n:Nat):P:=Nat.rec .z (λ_ ih=>P.succ ih) n
theorem tC (n:Nat):(aB n).num=n:=by
 induction n with
 | zero=>rfl
 | succ n ih=>show (P.succ (aB n)).num=_;rw [P.num_succ,ih]
theorem eU {m n:Nat} (h:aB m=aB n):m=n:=by rw [← tC m,← tC n,h]
end Go.Lk
namespace Go.Lk
open Go.Eng
inductive V where
 | int (k:IntKind) (x:Int)
 | bool (b:Bool)
 | str (l:List Nat)
 | pnil
 | ptr (b:P) (i j:Nat)
 | snil
 | sl (b:P) (i len:Nat) (cap:Option Nat)
 | fn (f:FuncId) (first captured:List V)
 | yield (l:P)
 | fnil
 | mnil
 | map (b:P)
 | inil
 | iface (t:TypeId) (v:V)
 | agg (l:List V)
 | tup (l:List V)
 | flt (n:Nat)
 deriving Inhabited
structure Loc where
 c:Nat
 o:Nat
 cap:Nat
 k:Nat
abbrev Ren:=P->Option Loc
abbrev KK:Nat:=1099511627776
abbrev MM:Nat:=1048576
def PL (L:Loc) (i len:Nat) (cap:Option Nat) (p c:Nat):Prop:=match cap with
 | some c'=>p=i/\c=c'
 | none=>if len=0/\KK<=i then c=L.cap-(i-KK) % MM/\p=(if L.cap-(i-KK) % MM=0 then (i-KK) / MM else (i-KK) % MM) else p=i/\c=L.cap-i
def aH (s:ByteArray):List Nat:=s.data.toList.map (·.toNat)
mutual
def Rv (ρ:Ren):V->Value->Prop
 | .int k x,v=>v= .int k x
 | .bool b,v=>v= .bool b
 | .str l,v=>∃ s,v= .string s/\aH s=l
 | .pnil,v=>v= .pointer none
 | .ptr b i j,v=>∃ L,ρ b=some L/\v= .pointer (some ⟨L.c,(L.o+i) * L.k+j,none⟩)
 | .snil,v=>v= .slice none 0 0
 | .sl b i len cap,v=>∃ L c p,ρ b=some L/\v= .slice (some ⟨L.c,(L.o+p) * L.k,none⟩) len c/\PL L i len cap p c/\len<=c/\p+c<=L.cap
 | .fn f a b,v=>∃ a' b',v= .func (.func f) a' b'/\Rvs ρ a a'.toList/\Rvs ρ b b'.toList
 | .yield l,v=>∃ L,ρ l=some L/\v= .func (.yield L.c) #[] #[]
 | .fnil,v=>v= .nilFunc
 | .mnil,v=>v= .map none
 | .map b,v=>∃ L,ρ b=some L/\v= .map (some L.c)
 | .inil,v=>v= .nilIface
 | .iface t x,v=>∃ y,v= .iface t y/\Rv ρ x y
 | .agg l,v=>∃ a,v= .agg a/\Rvs ρ l a.toList
 | .tup l,v=>∃ a,v= .tuple a/\Rvs ρ l a.toList
 | .flt n,v=>v= .float .f64 n
def Rvs (ρ:Ren):List V->List Value->Prop
 | [],vs=>vs=[]
 | v::l,vs=>∃ x r,vs=x::r/\Rv ρ v x/\Rvs ρ l r
end
section
variable {L:Loc} {i len:Nat} {cap:Option Nat} {p c:Nat}
theorem PL.capd {c':Nat} (h:PL L i len (some c') p c):p=i/\c=c':=h
theorem PL.open (h:PL L i len none p c) (hl:0<len\/i<KK):p=i/\c=L.cap-i:=by
 unfold PL at h;simp only at h;rw [if_neg (by omega)] at h;exact h
theorem PL.pos (h:PL L i len cap p c) (hl:0<len):p=i:=by
 cases cap with
 | some c'=>exact h.1
 | none=>exact (PL.open h (.inl hl)).1
theorem PL.mkC {c':Nat}:PL L i len (some c') i c':=⟨rfl,rfl⟩
theorem PL.mkO (hl:0<len\/i<KK):PL L i len none i (L.cap-i):=by
 show (if len=0/\KK<=i then _ else i=i/\L.cap-i=L.cap-i);rw [if_neg (by omega)];exact ⟨rfl,rfl⟩
theorem PL.full (h:PL L i len none p c) (hc:0<c):p+c=L.cap:=by
 unfold PL at h;simp only at h
 split at h
 .obtain ⟨h1,h2⟩:=h;rw [if_neg (by omega)] at h2;omega
 .omega
theorem PL.fn {p' c':Nat} (h:PL L i len cap p c) (g:PL L i len cap p' c'):p=p'/\c=c':=by
 unfold PL at h g
 cases cap with
 | some x=>exact ⟨h.1.trans g.1.symm,h.2.trans g.2.symm⟩
 | none=>
  simp only at h g
  split at h
  .rename_i e;rw [if_pos e] at g;exact ⟨h.2.trans g.2.symm,h.1.trans g.1.symm⟩
  .rename_i e;rw [if_neg e] at g;exact ⟨h.1.trans g.1.symm,h.2.trans g.2.symm⟩
end
def Ren.le (ρ ρ':Ren):Prop:=∀ b L,ρ b=some L->ρ' b=some L
theorem Ren.le.refl (ρ:Ren):ρ.le ρ:=λ_ _ h=>h
theorem Ren.le.trans {ρ ρ' ρ'':Ren} (h:ρ.le ρ') (h':ρ'.le ρ''):ρ.le ρ'':=λb L e=>h' b L (h b L e)
mutual
theorem Rv.mono {ρ ρ':Ren} (h:ρ.le ρ'):∀ (v:V) (x:Value),Rv ρ v x->Rv ρ' v x
 | .int ..,_,e | .bool _,_,e | .str _,_,e | .pnil,_,e | .snil,_,e | .fnil,_,e | .mnil,_,e | .inil,_,e | .flt _,_,e=>by simpa only [Rv] using e
 | .ptr ..,_,e=>by simp only [Rv] at e ⊢;obtain ⟨L,e,r⟩:=e;exact ⟨L,h _ _ e,r⟩
 | .sl ..,_,e=>by simp only [Rv] at e ⊢;obtain ⟨L,c,p,e,r⟩:=e;exact ⟨L,c,p,h _ _ e,r⟩
 | .yield ..,_,e=>by simp only [Rv] at e ⊢;obtain ⟨L,e,r⟩:=e;exact ⟨L,h _ _ e,r⟩
 | .map ..,_,e=>by simp only [Rv] at e ⊢;obtain ⟨L,e,r⟩:=e;exact ⟨L,h _ _ e,r⟩
 | .fn _ a b,_,e=>by simp only [Rv] at e ⊢;obtain ⟨a',b',e,r,s⟩:=e;exact ⟨a',b',e,Rvs.mono h _ _ r,Rvs.mono h _ _ s⟩
 | .iface _ x,_,e=>by simp only [Rv] at e ⊢;obtain ⟨y,e,r⟩:=e;exact ⟨y,e,Rv.mono h _ _ r⟩
 | .agg l,_,e=>by simp only [Rv] at e ⊢;obtain ⟨y,e,r⟩:=e;exact ⟨y,e,Rvs.mono h _ _ r⟩
 | .tup l,_,e=>by simp only [Rv] at e ⊢;obtain ⟨y,e,r⟩:=e;exact ⟨y,e,Rvs.mono h _ _ r⟩
theorem Rvs.mono {ρ ρ':Ren} (h:ρ.le ρ'):∀ (l:List V) (xs:List Value),Rvs ρ l xs->Rvs ρ' l xs
 | [],_,e=>by simpa only [Rvs] using e
 | v::l,_,e=>by simp only [Rvs] at e ⊢;obtain ⟨x,r,e,p,q⟩:=e;exact ⟨x,r,e,Rv.mono h _ _ p,Rvs.mono h _ _ q⟩
end
theorem Rvs.length {ρ:Ren}:∀ {l:List V} {xs:List Value},Rvs ρ l xs->xs.length=l.length
 | [],_,e=>by simp only [Rvs] at e;subst e;rfl
 | v::l,_,e=>by simp only [Rvs] at e;obtain ⟨x,r,rfl,_,q⟩:=e;simp [Rvs.length q]
theorem Rvs.get {ρ:Ren}:∀ {l:List V} {xs:List Value},Rvs ρ l xs->∀ (i:Nat) (v:V),l[i]?=some v->∃ x,xs[i]?=some x/\Rv ρ v x
 | [],_,_,i,v,h=>by simp at h
 | u::l,_,e,i,v,h=>by
  simp only [Rvs] at e;obtain ⟨x,r,rfl,p,q⟩:=e
  cases i with
  | zero=>simp at h;subst h;exact ⟨x,rfl,p⟩
  | succ i=>exact Rvs.get q i v h
end Go.Lk
namespace Go.Lk
open Go.Eng Go.RowKit
section
variable {α:Type}
noncomputable def oN (n:Nat):List α->Option α:=Nat.rec (λl=>List.rec none (λv _ _=>some v) l) (λ_ ih l=>List.rec none (λ_ m _=>ih m) l) n
theorem gD (n:Nat) (l:List α):oN n l=l[n]? :=by
 induction n generalizing l with
 | zero=>cases l <;> rfl
 | succ n ih=>cases l with
  | nil=>rfl
  | cons a l=>exact ih l
noncomputable def FX (x:α) (n:Nat):List α->Option (List α):=
 Nat.rec (λl=>List.rec none (λ_ m _=>some (x::m)) l) (λ_ ih l=>List.rec none (λv m _=>Option.rec none (λr=>some (v::r)) (ih m)) l) n
theorem Ct (x:α) (n:Nat) (l:List α):FX x n l=if n<l.length then some (l.set n x) else none:=by
 induction n generalizing l with
 | zero=>cases l with
  | nil=>rfl
  | cons a l=>rfl
 | succ n ih=>cases l with
  | nil=>rfl
  | cons a l=>
   show (Option.rec none (λr=>some (a::r)) (FX x n l):Option (List α))=_
   rw [ih]
   by_cases h:n<l.length
   .simp [h]
   .simp [h]
end
inductive All2 {α β:Type} (R:α->β->Prop):List α->List β->Prop where
 | nil:All2 R [] []
 | cons {a:α} {b:β} {l:List α} {m:List β} (h:R a b) (t:All2 R l m):All2 R (a::l) (b::m)
theorem All2.imp {α β:Type} {R R':α->β->Prop} (h:∀ a b,R a b->R' a b) {l:List α} {m:List β} (a:All2 R l m):All2 R' l m:=by
 induction a with
 | nil=>exact .nil
 | cons h1 _ ih=>exact .cons (h _ _ h1) ih
inductive X where
 | exit (id:Nat)
 | goto (l:Nat)
 | ret
def X.code:X->Code
 | .exit id=>.exit id
 | .goto l=>.goto l
 | .ret=>.ret
inductive Blk where
 | rows (t:TypeId) (k:Nat) (open_:Bool) (rs:List (List V))
 | map (es:List (V × V × Nat)) (clock:Nat)
 | strIter (l:List Nat) (pos:Nat)
 | mapIter (m:Option P) (since:Nat) (seen:List Nat) (last:Nat)
 | loop (st:LoopState) (pend:Option X) (σ:T V) (m:Nat) (ps:List Nat) (asg body:Code) (d:P)
 | dfr (live:Bool)
 | fz (l:List Nat)
noncomputable section
def Blk.onRows {β:Type} (f:TypeId->Nat->Bool->List (List V)->Option β) (B:Blk):Option β:=Blk.rec f (λ_ _=>none) (λ_ _=>none) (λ_ _ _ _=>none) (λ_ _ _ _ _ _ _ _=>none) (λ_=>none) (λ_=>none) B
def Blk.onMap {β:Type} (f:List (V × V × Nat)->Nat->Option β) (B:Blk):Option β:=Blk.rec (λ_ _ _ _=>none) f (λ_ _=>none) (λ_ _ _ _=>none) (λ_ _ _ _ _ _ _ _=>none) (λ_=>none) (λ_=>none) B
def Blk.onLoop {β:Type} (f:LoopState->Option X->T V->Nat->List Nat->Code->Code->P->Option β) (B:Blk):Option β:=Blk.rec (λ_ _ _ _=>none) (λ_ _=>none) (λ_ _=>none) (λ_ _ _ _=>none) f (λ_=>none) (λ_=>none) B
def Blk.onDfr {β:Type} (f:Bool->Option β) (B:Blk):Option β:=Blk.rec (λ_ _ _ _=>none) (λ_ _=>none) (λ_ _=>none) (λ_ _ _ _=>none) (λ_ _ _ _ _ _ _ _=>none) f (λ_=>none) B
def Blk.on2 {β:Type} (f:List (List V)->Option β) (g:List Nat->Option β) (B:Blk):Option β:=Blk.rec (λ_ _ _ rs=>f rs) (λ_ _=>none) (λ_ _=>none) (λ_ _ _ _=>none) (λ_ _ _ _ _ _ _ _=>none) (λ_=>none) g B
def Blk.onWid {β:Type} (f:Nat->Option β) (B:Blk):Option β:=Blk.rec (λ_ k _ _=>f k) (λ_ _=>none) (λ_ _=>none) (λ_ _ _ _=>none) (λ_ _ _ _ _ _ _ _=>none) (λ_=>none) (λ_=>f 1) B
end
def Row (ρ:Ren) (arr:Array Value) (at_:Nat) (row:List V):Prop:=∀ j v,row[j]?=some v->∃ x,arr[at_+j]?=some x/\Rv ρ v x
def Rb (ρ:Ren) (L:Loc) (o:Option Obj):Blk->Prop
 | .rows t k op rs=>L.k=k/\∃ arr,o=some (.cells arr t (0,0))/\arr.size=(L.o+L.cap) * k/\rs.length<=L.cap/\(op=false->rs.length=L.cap/\L.o=0)/\
   ∀ i row,rs[i]?=some row->row.length=k/\Row ρ arr ((L.o+i) * k) row
 | .map es clock=>∃ l,o=some (.map l clock)/\All2 (λ(e:V × V × Nat) (x:MapEntry)=>Rv ρ e.1 x.key/\Rv ρ e.2.1 x.val/\x.born=e.2.2) es l.toList/\(l.toList.map (·.key)).Nodup
 | .strIter l pos=>L.k=0/\∃ s,o=some (.stringIter s pos)/\(aH s).drop pos=l
 | .mapIter m since seen last=>L.k=0/\∃ r,o=some (.mapIter r since seen.reverse.toArray last)/\(match m with | none=>r=none | some b=>∃ M,ρ b=some M/\r=some M.c)
 | .loop st pend σ m ps asg body d=>∃ r,o=some (.loop r)/\r.state=st/\r.pending=pend.map X.code/\r.params.toList=ps/\r.assign=asg/\r.body=body/\r.tmps.size=m/\
   (∀ t v,T.get (aB t) σ=some v->∃ x,r.tmps[t]?=some x/\Rv ρ v x)/\∃ D,ρ d=some D/\r.defers=D.c
 | .dfr live=>o=some (.deferred (bif live then some [] else none))
 | .fz l=>L.k=1/\∃ arr t fr,o=some (.cells arr t fr)/\∀ i c,l[i]?=some c->arr[L.o+i]?=some (.int .u8 (.ofNat c))
structure Base where
 w:World
 keep:Nat->Option Obj
structure Rh (w0:Base) (ρ:Ren) (h:T Blk) (n:P) (w:World):Prop where
 old:Below w0.w.heap.size w0.w w
 kept:∀ c o,w0.keep c=some o->w.heap[c]?=some o
 safe:∀ b B L,T.get b h=some B->ρ b=some L->w0.keep L.c=none
 new:∀ b L,ρ b=some L->w0.w.heap.size<=L.c/\L.c<w.heap.size/\b.num<n.num
 live:∀ b B L,T.get b h=some B->ρ b=some L->Rb ρ L w.heap[L.c]? B
 apart:∀ b b' B B' L L',T.get b h=some B->T.get b' h=some B'->ρ b=some L->ρ b'=some L'->L.c=L'.c->b=b'
theorem Row.mono {ρ ρ':Ren} (h:ρ.le ρ') {arr:Array Value} {at_:Nat} {row:List V} (hr:Row ρ arr at_ row):Row ρ' arr at_ row:=λj v hv=>let ⟨x,hx,h1⟩:=hr j v hv;⟨x,hx,h1.mono h⟩
theorem Rb.mono {ρ ρ':Ren} (h:ρ.le ρ') {L:Loc} {o:Option Obj} {B:Blk} (hb:Rb ρ L o B):Rb ρ' L o B:=by
 cases B with
 | rows t k op rs=>
  obtain ⟨h1,arr,h2,h3,h4,h5,h6⟩:=hb
  exact ⟨h1,arr,h2,h3,h4,h5,λi row hi=>⟨(h6 i row hi).1,(h6 i row hi).2.mono h⟩⟩
 | map es clock=>
  obtain ⟨l,h1,h2,h3⟩:=hb
  exact ⟨l,h1,h2.imp λ_ _ ⟨a,b,c⟩=>⟨a.mono h,b.mono h,c⟩,h3⟩
 | strIter l pos=>exact hb
 | mapIter m since seen last=>
  obtain ⟨hk,r,h1,h2⟩:=hb
  refine ⟨hk,r,h1,?_⟩
  cases m with
  | none=>exact h2
  | some b=>obtain ⟨M,e,h3⟩:=h2;exact ⟨M,h _ _ e,h3⟩
 | loop st pend σ m ps asg body d=>
  obtain ⟨r,h1,h2,h3,h4,h5,h6,h7,h8,D,h9,h10⟩:=hb
  exact ⟨r,h1,h2,h3,h4,h5,h6,h7,λt v e=>let ⟨x,a,b⟩:=h8 t v e;⟨x,a,b.mono h⟩,D,h _ _ h9,h10⟩
 | dfr live=>exact hb
 | fz l=>exact hb
end Go.Lk
namespace Go.Lk
open Go.Eng Go.RowKit
section
variable {w0:Base} {w:World} {ρ:Ren} {h:T Blk} {n:P} {b:P} {L:Loc} {t:TypeId} {k:Nat} {op:Bool} {rs:List (List V)}
theorem Rh.row (H:Rh w0 ρ h n w) (hb:T.get b h=some (.rows t k op rs)) (hL:ρ b=some L) {i:Nat} {row:List V} (hi:rs[i]?=some row) :
  L.k=k/\row.length=k/\∃ cs:List Value,cs.length=k/\Cells w.heap L.c ((L.o+i) * L.k) cs/\Rvs ρ row cs:=by
 obtain ⟨hk,arr,ho,hs,hl,_,hr⟩:=H.live b _ L hb hL;obtain ⟨hrl,hrow⟩:=hr i row hi;subst hk;have hil:i<rs.length:=(List.getElem?_eq_some_iff.1 hi).1
 have key:∀ (row:List V) (at_:Nat),Row ρ arr at_ row->∃ cs:List Value,cs.length=row.length/\(∀ j (hj:j<cs.length),arr[at_+j]?=some cs[j])/\Rvs ρ row cs:=by
  intro row
  induction row with
  | nil=>intro at_ _;exact ⟨[],rfl,λj hj=>absurd hj (by simp),by simp only [Rvs]⟩
  | cons v row ih=>
   intro at_ hr
   obtain ⟨x,hx,hv⟩:=hr 0 v rfl
   obtain ⟨cs,h1,h2,h3⟩:=ih (at_+1) (λj u hu=>by
    obtain ⟨y,hy,h⟩:=hr (j+1) u hu
    exact ⟨y,by rw [← hy];congr 1;omega,h⟩)
   refine ⟨x::cs,by simp [h1],λj hj=>?_,by simp only [Rvs];exact ⟨x,cs,rfl,hv,h3⟩⟩
   cases j with
   | zero=>exact hx
   | succ j=>
    have:=h2 j (by simpa using hj)
    rw [show at_+(j+1)=at_+1+j by omega,this];rfl
 obtain ⟨cs,h1,h2,h3⟩:=key row _ hrow;exact ⟨rfl,hrl,cs,by omega,⟨arr,t,(0,0),ho,h2⟩,h3⟩
theorem Rh.drop (H:Rh w0 ρ h n w) (b:P):Rh w0 ρ (T.put none b h) n w:=by
 refine ⟨H.old,H.kept,λb' B L hb hL=>?_,H.new,λb' B L hb hL=>?_,λb1 b2 B1 B2 L1 L2 h1 h2 h3 h4 h5=>?_⟩
 .rw [T.get_put] at hb
  split at hb
  .cases hb
  .exact H.safe b' B L hb hL
 .rw [T.get_put] at hb
  split at hb
  .cases hb
  .exact H.live b' B L hb hL
 .rw [T.get_put] at h1 h2
  split at h1
  .cases h1
  .split at h2
   .cases h2
   .exact H.apart b1 b2 B1 B2 L1 L2 h1 h2 h3 h4 h5
def Ren.put (ρ:Ren) (b:P) (L:Loc):Ren:=λx=>if x=b then some L else ρ x
theorem Ren.le_put {ρ:Ren} {b:P} {L:Loc} (hb:ρ b=none):ρ.le (ρ.put b L):=λx M hx=>by
 unfold Ren.put
 split
 .rename_i e;subst e;rw [hb] at hx;cases hx
 .exact hx
theorem Rh.grow (H:Rh w0 ρ h n w) {w':World} {o:Obj} (hal:Al w w' o) {m:P} (hm:m.num<n.num\/m=n) (hfree:ρ m=none) {n':P} (hn:n.num<=n'.num) (hmn:m.num<n'.num) {L:Loc} (hc:L.c=w.heap.size) {B:Blk} (hB:Rb (ρ.put m L) L (some o) B) :
  Rh w0 (ρ.put m L) (T.put (some B) m h) n' w':=by
 have hx:=hal.ext;refine ⟨H.old.trans (hx.mono H.old.size),λc o' hk=>?_,λb B' M hb hM=>?_,λb M hb=>?_,λb B' M hb hM=>?_,λb1 b2 B1 B2 L1 L2 h1 h2 h3 h4 h5=>?_⟩
 .have h1:=H.kept c o' hk;rw [hal.old (Array.getElem?_eq_some_iff.1 h1).1];exact h1
 .rw [T.get_put] at hb
  by_cases e:b=m
  .subst e;simp only [Ren.put,if_true] at hM;cases hM
   cases hk:w0.keep L.c with
   | none=>rfl
   | some o'=>
    have h1:=(Array.getElem?_eq_some_iff.1 (H.kept _ o' hk)).1
    rw [hc] at h1;omega
  .rw [if_neg e] at hb;simp only [Ren.put,if_neg e] at hM;exact H.safe b B' M hb hM
 .unfold Ren.put at hb
  split at hb
  .rename_i e;subst e;cases hb;rw [hc,hal.size];exact ⟨H.old.size,by omega,hmn⟩
  .obtain ⟨a1,a2,a3⟩:=H.new b M hb;rw [hal.size];exact ⟨a1,by omega,by omega⟩
 .rw [T.get_put] at hb
  by_cases e:b=m
  .subst e;rw [if_pos rfl] at hb;cases hb
   simp only [Ren.put,if_true] at hM;cases hM
   rw [hc,hal.new];exact hB
  .rw [if_neg e] at hb;simp only [Ren.put,if_neg e] at hM;have:=H.new b M hM;rw [hal.old this.2.1];exact (H.live b B' M hb hM).mono (Ren.le_put hfree)
 .rw [T.get_put] at h1 h2
  by_cases e1:b1=m <;> by_cases e2:b2=m
  .rw [e1,e2]
  .subst e1;simp only [Ren.put,if_true] at h3;cases h3;simp only [Ren.put,if_neg e2] at h4;have:=H.new b2 L2 h4;omega
  .subst e2;simp only [Ren.put,if_true] at h4;cases h4;simp only [Ren.put,if_neg e1] at h3;have:=H.new b1 L1 h3;omega
  .rw [if_neg e1] at h1;rw [if_neg e2] at h2;simp only [Ren.put,if_neg e1] at h3;simp only [Ren.put,if_neg e2] at h4;exact H.apart b1 b2 B1 B2 L1 L2 h1 h2 h3 h4 h5
theorem Rh.turn (H:Rh w0 ρ h n w) {w':World} {o:Obj} {B0 B:Blk} (hb:T.get b h=some B0) (hL:ρ b=some L) (hp:Pt w w' L.c o) (hB:Rb ρ L (some o) B):Rh w0 ρ (T.put (some B) b h) n w':=by
 have hsafe:=H.safe b B0 L hb hL;refine ⟨hp.below H.old (H.new b L hL).1,λc o' hk=>?_,λb' B' M hb' hM=>?_,λb' M hb'=>?_,λb' B' M hb' hM=>?_,λb1 b2 B1 B2 L1 L2 h1 h2 h3 h4 h5=>?_⟩
 .have hne:c≠L.c:=λe=>by subst e;rw [hsafe] at hk;cases hk
  rw [hp.old hne];exact H.kept c o' hk
 .rw [T.get_put] at hb'
  by_cases e:b'=b
  .subst e;rw [hL] at hM;cases hM;exact hsafe
  .rw [if_neg e] at hb';exact H.safe b' B' M hb' hM
 .rw [hp.size];exact H.new b' M hb'
 .rw [T.get_put] at hb'
  by_cases e:b'=b
  .subst e;rw [if_pos rfl] at hb';cases hb'
   rw [hL] at hM;cases hM
   rw [hp.new];exact hB
  .rw [if_neg e] at hb';have hne:M.c≠L.c:=λhc=>e (H.apart b' b _ _ M L hb' hb hM hL hc);rw [hp.old hne];exact H.live b' B' M hb' hM
 .rw [T.get_put] at h1 h2
  by_cases e1:b1=b <;> by_cases e2:b2=b
  .rw [e1,e2]
  .subst e1;rw [if_neg e2] at h2;exact H.apart b1 b2 _ _ L1 L2 hb h2 h3 h4 h5
  .subst e2;rw [if_neg e1] at h1;exact H.apart b1 b2 _ _ L1 L2 h1 hb h3 h4 h5
  .rw [if_neg e1] at h1;rw [if_neg e2] at h2;exact H.apart b1 b2 _ _ L1 L2 h1 h2 h3 h4 h5
end
end Go.Lk
namespace Go.Lk
open Go.Eng Go.RowKit
section
variable {α:Type}
noncomputable def Bz (m:List α):List α->Option (List α):=List.rec (λl=>some l) (λv _ ih l=>List.rec none (λ_ r _=>Option.rec none (λx=>some (v::x)) (ih r)) l) m
noncomputable def gM (m:List α) (j:Nat):List α->Option (List α):=Nat.rec (λl=>Bz m l) (λ_ ih l=>List.rec none (λv r _=>Option.rec none (λx=>some (v::x)) (ih r)) l) j
theorem Eo (m:List α):∀ (l r:List α),Bz m l=some r->m.length<=l.length/\r=m++l.drop m.length:=by
 induction m with
 | nil=>intro l r h;cases h;exact ⟨Nat.zero_le _,by simp⟩
 | cons v m ih=>
  intro l r h
  cases l with
  | nil=>cases h
  | cons a l=>
   have h':(Option.rec none (λx=>some (v::x)) (Bz m l):Option (List α))=some r:=h
   cases e:Bz m l with
   | none=>rw [e] at h';cases h'
   | some x=>
    rw [e] at h';cases h'
    obtain ⟨h1,h2⟩:=ih l x e
    exact ⟨by simpa using h1,by simp [h2]⟩
theorem kG (m:List α) (j:Nat):∀ (l r:List α),gM m j l=some r->j+m.length<=l.length/\r=l.take j++m++l.drop (j+m.length):=by
 induction j with
 | zero=>intro l r h;obtain ⟨h1,h2⟩:=Eo m l r h;exact ⟨by omega,by simp [h2]⟩
 | succ j ih=>
  intro l r h
  cases l with
  | nil=>cases h
  | cons a l=>
   have h':(Option.rec none (λx=>some (a::x)) (gM m j l):Option (List α))=some r:=h
   cases e:gM m j l with
   | none=>rw [e] at h';cases h'
   | some x=>
    rw [e] at h';cases h'
    obtain ⟨h1,h2⟩:=ih l x e
    refine ⟨by simp only [List.length_cons];omega,?_⟩
    rw [h2,show j+1+m.length=(j+m.length)+1 by omega];simp
theorem eZ {cs vs:List α} {o:Nat} (hl:o+vs.length<=cs.length) (p:Nat):(cs.take o++vs++cs.drop (o+vs.length))[p]?=if o<=p/\p<o+vs.length then vs[p-o]? else cs[p]? :=by
 by_cases h1:p<o
 .rw [if_neg (by omega),List.append_assoc,List.getElem?_append_left (by simp;omega),List.getElem?_take,if_pos h1]
 .by_cases h2:p<o+vs.length
  .rw [if_pos ⟨by omega,h2⟩,List.getElem?_append_left (by simp;omega),List.getElem?_append_right (by simp;omega)]
   congr 1;simp;omega
  .rw [if_neg (by omega),List.getElem?_append_right (by simp;omega),List.getElem?_drop]
   congr 1;simp;omega
end
theorem Rvs.get' {ρ:Ren} {l:List V} {xs:List Value} (h:Rvs ρ l xs) {i:Nat} {v:V} (hi:l[i]?=some v):∃ x,xs[i]?=some x/\Rv ρ v x:=Rvs.get h i v hi
theorem BH {a b k x y:Nat} (hab:a≠b) (hx:x<k) (hy:y<k):a * k+x≠b * k+y:=by
 intro e
 rcases Nat.lt_or_gt_of_ne hab with h | h
 .have:=Nat.mul_le_mul_right k (show a+1<=b by omega);rw [Nat.add_mul] at this;omega
 .have:=Nat.mul_le_mul_right k (show b+1<=a by omega);rw [Nat.add_mul] at this;omega
theorem Rb.write {ρ:Ren} {L:Loc} {arr:Array Value} {t:TypeId} {k i j:Nat} {op:Bool} {rs:List (List V)} {row row' m:List V} {vs:List Value}
  (hB:Rb ρ L (some (.cells arr t (0,0))) (.rows t k op rs)) (hi:rs[i]?=some row) (ho:gM m j row=some row') (hv:Rvs ρ m vs) :
  (L.o+i) * L.k+j+vs.length<=arr.toList.length/\Rb ρ L (some (.cells (aL arr.toList ((L.o+i) * L.k+j) vs).toArray t (0,0))) (.rows t k op (rs.set i row')):=by
 obtain ⟨hk,arr',he,hs,hl,hop,hr⟩:=hB;cases he
 subst hk;obtain ⟨h1,h2⟩:=kG m j row row' ho;obtain ⟨hrl,hrow⟩:=hr i row hi;have hil:i<rs.length:=(List.getElem?_eq_some_iff.1 hi).1;have hvl:=Rvs.length hv
 have hb:(L.o+i) * L.k+L.k<=(L.o+L.cap) * L.k:=by
  have:=Nat.mul_le_mul_right L.k (show L.o+i+1<=L.o+L.cap by omega);rw [Nat.add_mul] at this;omega
 have hfit:(L.o+i) * L.k+j+vs.length<=arr.toList.length:=by simp only [Array.length_toList,hs];omega
 refine ⟨hfit,rfl,_,rfl,?_,by simpa using hl,by simpa using hop,λi' r' hi'=>?_⟩
 .rw [List.size_toArray,ji hfit,Array.length_toList,hs]
 .have hrl':row'.length=row.length:=by rw [h2];simp;omega
  rw [List.getElem?_set] at hi'
  by_cases hii:i=i'
  .subst hii;rw [if_pos rfl,if_pos hil] at hi';cases hi'
   refine ⟨by omega,λq v hq=>?_⟩;have hq':=hq;rw [h2,eZ h1] at hq;rw [List.getElem?_toArray];unfold aL;rw [eZ hfit];have hql:q<row'.length:=(List.getElem?_eq_some_iff.1 hq').1
   by_cases hin:j<=q/\q<j+m.length
   .rw [if_pos hin] at hq;rw [if_pos (by omega),show (L.o+i) * L.k+q-((L.o+i) * L.k+j)=q-j by omega];exact hv.get' hq
   .rw [if_neg hin] at hq;rw [if_neg (by omega)];obtain ⟨x,hx,hxv⟩:=hrow q v hq;exact ⟨x,by rw [Array.getElem?_toList];exact hx,hxv⟩
  .rw [if_neg hii] at hi';obtain ⟨g1,g2⟩:=hr i' r' hi';refine ⟨g1,λq v hq=>?_⟩;have hql:q<r'.length:=(List.getElem?_eq_some_iff.1 hq).1;obtain ⟨x,hx,hxv⟩:=g2 q v hq;refine ⟨x,?_,hxv⟩;rw [List.getElem?_toArray];unfold aL;rw [eZ hfit,if_neg,Array.getElem?_toList]
   .exact hx
   .rintro ⟨a1,a2⟩;have hw:(L.o+i') * L.k+q-(L.o+i) * L.k<L.k:=by omega
    exact BH (a:=L.o+i') (b:=L.o+i) (k:=L.k) (x:=q) (y:=(L.o+i') * L.k+q-(L.o+i) * L.k) (by omega) (by omega) hw (by omega)
end Go.Lk
namespace Go.Lk
open Go.Eng Go.RowKit
section
variable {α:Type}
noncomputable def dB (n:Nat):List α->List α:=Nat.rec (λl=>l) (λ_ ih l=>List.rec [] (λ_ r _=>ih r) l) n
noncomputable def bY (n:Nat):List α->Option (List α):=Nat.rec (λ_=>some []) (λ_ ih l=>List.rec none (λv r _=>Option.rec none (λx=>some (v::x)) (ih r)) l) n
theorem dA (n:Nat) (l:List α):dB n l=l.drop n:=by
 induction n generalizing l with
 | zero=>rfl
 | succ n ih=>cases l with
  | nil=>rfl
  | cons a l=>exact ih l
theorem bL (n:Nat):∀ (l r:List α),bY n l=some r->n<=l.length/\r=l.take n:=by
 induction n with
 | zero=>intro l r h;cases h;exact ⟨Nat.zero_le _,by simp⟩
 | succ n ih=>
  intro l r h
  cases l with
  | nil=>cases h
  | cons a l=>
   have h':(Option.rec none (λx=>some (a::x)) (bY n l):Option (List α))=some r:=h
   cases e:bY n l with
   | none=>rw [e] at h';cases h'
   | some x=>
    rw [e] at h';cases h'
    obtain ⟨h1,h2⟩:=ih l x e
    exact ⟨by simpa using h1,by simp [h2]⟩
end
theorem Rvs.split {ρ:Ren}:∀ {l:List V} {xs:List Value},Rvs ρ l xs->∀ n,Rvs ρ (l.take n) (xs.take n)/\Rvs ρ (l.drop n) (xs.drop n)
 | [],_,e,n=>by simp only [Rvs] at e;subst e;simp [Rvs]
 | v::l,_,e,n=>by
  simp only [Rvs] at e;obtain ⟨x,r,rfl,p,q⟩:=e
  cases n with
  | zero=>simp only [List.take_zero,List.drop_zero,Rvs];exact ⟨trivial,x,r,rfl,p,q⟩
  | succ n=>
   obtain ⟨h1,h2⟩:=Rvs.split q n
   simp only [List.take_succ_cons,List.drop_succ_cons,Rvs]
   exact ⟨⟨x,_,rfl,p,h1⟩,h2⟩
theorem Rvs.append {ρ:Ren}:∀ {l:List V} {xs:List Value} {m:List V} {ys:List Value},Rvs ρ l xs->Rvs ρ m ys->Rvs ρ (l++m) (xs++ys)
 | [],_,_,_,e,f=>by simp only [Rvs] at e;subst e;exact f
 | v::l,_,m,ys,e,f=>by
  simp only [Rvs] at e;obtain ⟨x,r,rfl,p,q⟩:=e;simp only [List.cons_append,Rvs];exact ⟨x,_,rfl,p,Rvs.append q f⟩
section
variable {w0:Base} {w:World} {ρ:Ren} {h:T Blk} {n:P} {b:P} {L:Loc}
noncomputable def A9 (b:P) (h:T Blk):Option (List (List V)):=Option.rec none (λB=>Blk.onRows (λ_ _ _ rs=>some rs) B) (T.get b h)
noncomputable def l8 (m:Nat) (b:P) (i j:Nat) (h:T Blk):Option (List V):=
 Option.rec none (λrs=>Option.rec none (λrow=>bY m (dB j row)) (oN i rs)) (A9 b h)
noncomputable def jh (m:List V) (b:P) (i j:Nat) (h:T Blk):Option (T Blk):=
 Option.rec none (λB=>Blk.onRows (λt k op rs=>Option.rec none (λrow=>Option.rec none (λrow'=>Option.rec none (λrs'=>some (T.put (some (.rows t k op rs')) b h)) (FX row' i rs)) (gM m j row)) (oN i rs)) B) (T.get b h)
theorem BJ {m i j:Nat} {l:List V} (e:l8 m b i j h=some l) :
  ∃ t k op rs row,T.get b h=some (.rows t k op rs)/\rs[i]?=some row/\m<=(row.drop j).length/\l=(row.drop j).take m:=by
 unfold l8 A9 at e
 cases hb:T.get b h with
 | none=>rw [hb] at e;cases e
 | some B=>
  rw [hb] at e
  cases B with
  | rows t k op rs=>
   dsimp only [Blk.onRows] at e
   rw [gD] at e
   cases hi:rs[i]? with
   | none=>rw [hi] at e;cases e
   | some row=>
    rw [hi] at e
    dsimp only at e
    rw [dA] at e
    obtain ⟨h1,h2⟩:=bL _ _ _ e
    exact ⟨t,k,op,rs,row,rfl,hi,h1,h2⟩
  | map=>cases e
  | strIter=>cases e
  | mapIter=>cases e
  | loop=>cases e
  | dfr=>cases e
  | fz=>cases e
theorem yI {m:List V} {i j:Nat} {h':T Blk} (e:jh m b i j h=some h') :
  ∃ t k op rs row row',T.get b h=some (.rows t k op rs)/\rs[i]?=some row/\gM m j row=some row'/\h'=T.put (some (.rows t k op (rs.set i row'))) b h:=by
 unfold jh at e
 cases hb:T.get b h with
 | none=>rw [hb] at e;cases e
 | some B=>
  rw [hb] at e
  cases B with
  | rows t k op rs=>
   dsimp only [Blk.onRows] at e
   rw [gD] at e
   cases hi:rs[i]? with
   | none=>rw [hi] at e;cases e
   | some row=>
    rw [hi] at e
    dsimp only at e
    cases ho:gM m j row with
    | none=>rw [ho] at e;cases e
    | some row'=>
     rw [ho] at e
     dsimp only at e
     rw [Ct,if_pos (List.getElem?_eq_some_iff.1 hi).1] at e
     cases e
     exact ⟨t,k,op,rs,row,row',rfl,hi,ho,rfl⟩
  | map=>cases e
  | strIter=>cases e
  | mapIter=>cases e
  | loop=>cases e
  | dfr=>cases e
  | fz=>cases e
theorem Rh.read (H:Rh w0 ρ h n w) (hL:ρ b=some L) {m i j:Nat} {l:List V} (e:l8 m b i j h=some l) :
  ∃ cs:List Value,cs.length=m/\Cells w.heap L.c ((L.o+i) * L.k+j) cs/\Rvs ρ l cs:=by
 obtain ⟨t,k,op,rs,row,hb,hi,h1,rfl⟩:=BJ e;obtain ⟨hk,hrl,cs,hcl,⟨arr,T,fr,ho,hc⟩,hv⟩:=H.row hb hL hi;have h2:=((hv.split j).2.split m).1;have hlen:((cs.drop j).take m).length=m:=by have:=Rvs.length h2;rw [this,List.length_take];omega
 refine ⟨_,hlen,⟨arr,T,fr,ho,λq hq=>?_⟩,h2⟩;rw [hlen] at hq;have hjq:j+q<cs.length:=by simp only [List.length_drop] at h1;omega
 rw [show (L.o+i) * L.k+j+q=(L.o+i) * L.k+(j+q) by omega,hc (j+q) hjq];simp
theorem Rh.write (H:Rh w0 ρ h n w) (hL:ρ b=some L) {m:List V} {vs:List Value} {i j:Nat} {h':T Blk} (e:jh m b i j h=some h') (hv:Rvs ρ m vs) :
  ∃ (arr:Array Value) (t:TypeId),Go.Eng.Blk w.heap L.c arr.toList t/\(L.o+i) * L.k+j+vs.length<=arr.toList.length/\
   ∀ w',Pt w w' L.c (.cells (aL arr.toList ((L.o+i) * L.k+j) vs).toArray t (0,0))->Rh w0 ρ h' n w':=by
 obtain ⟨t,k,op,rs,row,row',hb,hi,ho,rfl⟩:=yI e;have hB:=H.live b _ L hb hL;obtain ⟨_,arr,harr,_⟩:=hB;have hB:=H.live b _ L hb hL;rw [harr] at hB;obtain ⟨h1,h2⟩:=Rb.write hB hi ho hv;exact ⟨arr,t,by unfold Go.Eng.Blk;rw [harr],h1,λw' hp=>H.turn hb hL hp h2⟩
end
end Go.Lk
namespace Go.Lk
open Go.Eng Go.RowKit
noncomputable def F2 (v:V):Bool:=match v with
 | .agg _=>false
 | .tup _=>false
 | _=>true
noncomputable def qe (l:List V):Bool:=List.rec true (λv _ ih=>Bool.rec false ih (F2 v)) l
noncomputable def py (v:V):List V:=match v with
 | .agg l=>l
 | v=>[v]
theorem Jp {ρ:Ren} {v:V} {x:Value} (h:F2 v=true) (hv:Rv ρ v x):K9 x:=by
 intro cs;cases v <;> simp only [F2] at h <;> try exact absurd h (by decide)
 all_goals simp only [Rv] at hv
 all_goals first | subst hv | (obtain ⟨_,rfl,_⟩:=hv) | (obtain ⟨_,_,rfl,_⟩:=hv) | (obtain ⟨_,_,rfl⟩:=hv) | (obtain ⟨_,_,_,rfl,_⟩:=hv) | (obtain ⟨_,_,_,_,rfl,_⟩:=hv)
 all_goals exact ⟨(by intro e;cases e),(by intro e;cases e)⟩
theorem jr {ρ:Ren}:∀ {l:List V} {xs:List Value},qe l=true->Rvs ρ l xs->∀ u ∈ xs,K9 u
 | [],_,_,e,u,hu=>by simp only [Rvs] at e;subst e;cases hu
 | v::l,_,h,e,u,hu=>by
  simp only [Rvs] at e;obtain ⟨x,r,rfl,p,q⟩:=e;have h':(Bool.rec false (qe l) (F2 v):Bool)=true:=h
  cases hv:F2 v with
  | false=>rw [hv] at h';cases h'
  | true=>
   rw [hv] at h'
   rcases List.mem_cons.1 hu with rfl | hu
   .exact Jp hv p
   .exact jr h' q u hu
theorem eV {ρ:Ren} {v:V} {x:Value} (hv:Rv ρ v x) (ht:∀ l,v≠.tup l):Rvs ρ (py v) x.cells.toList:=by
 have key:∀ (v:V) (x:Value),Rv ρ v x->x.cells=#[x]->Rvs ρ [v] x.cells.toList:=λv x hv e=>by rw [e];simp only [Rvs];exact ⟨x,[],rfl,hv,rfl⟩
 cases v
 case agg l=>simp only [Rv] at hv;obtain ⟨a,rfl,h⟩:=hv;exact h
 case tup l=>exact absurd rfl (ht l)
 all_goals refine key _ _ hv ?_
 all_goals simp only [Rv] at hv
 all_goals first | subst hv | (obtain ⟨_,rfl,_⟩:=hv) | (obtain ⟨_,_,rfl,_⟩:=hv) | (obtain ⟨_,_,rfl⟩:=hv) | (obtain ⟨_,_,_,rfl,_⟩:=hv) | (obtain ⟨_,_,_,_,rfl,_⟩:=hv)
 all_goals rfl
section
variable {Pr:Program} {m:Nat} {σ:Nat->Value} {w0:Base} {w:World} {ty t:TypeId} {ρ:Ren} {h:T Blk} {n b:P} {i j k:Nat} {x y:Operand} {cv:Value}
theorem Tg (H:Rh w0 ρ h n w) (hN:NA Pr t) (hx:ev m σ x=cv) (hv:Rv ρ (.ptr b i j) cv) {v:V} (e:l8 1 b i j h=some [v]):∃ u,Ex Pr (ev m σ) w (.load t x) ty u/\Rv ρ v u:=by
 simp only [Rv] at hv;obtain ⟨L,hL,rfl⟩:=hv;obtain ⟨cs,hl,hc,hr⟩:=H.read hL e;simp only [Rvs] at hr;obtain ⟨u,r,rfl,hu,rfl⟩:=hr;exact ⟨u,qE hN hx hc,hu⟩
theorem Tf (H:Rh w0 ρ h n w) (hN:AG Pr t k) (hx:ev m σ x=cv) (hv:Rv ρ (.ptr b i j) cv) {l:List V} (e:l8 k b i j h=some l):∃ u,Ex Pr (ev m σ) w (.load t x) ty u/\Rv ρ (.agg l) u:=by
 simp only [Rv] at hv;obtain ⟨L,hL,rfl⟩:=hv;obtain ⟨cs,hl,hc,hr⟩:=H.read hL e;subst hl;exact ⟨_,qI cs hN hx hc,by simp only [Rv];exact ⟨_,rfl,hr⟩⟩
theorem S7 (H:Rh w0 ρ h n w) (hs:SZ Pr t k) (hx:ev m σ x=cv) (hv:Rv ρ (.ptr b i j) cv) {v:V} {u:Value} (hy:ev m σ y=u) (hu:Rv ρ v u) (h1:qe (py v)=true) (hk:(py v).length=k)
  (ht:∀ l,v≠.tup l) {h':T Blk} (e:jh (py v) b i j h=some h') {K:Value->World->Prop} (kk:∀ w',Rh w0 ρ h' n w'->K undef w'):fU Pr (ev m σ) w (.store t x y) ty K:=by
 simp only [Rv] at hv;obtain ⟨L,hL,rfl⟩:=hv;have hc:=eV hu ht;obtain ⟨arr,T,hB,hfit,hn⟩:=H.write hL e hc;have hlen:=Rvs.length hc;have hsz:u.cells.size=k:=by rw [← hk,← hlen];simp
 exact qV (by rw [hsz];exact hs) hx hy hB (by simpa using hfit) (jr h1 hc) λw' hp=>kk w' (hn w' hp)
end
end Go.Lk
namespace Go.Lk
open Go.Eng Go.RowKit
theorem fE {α:Type} {k:Nat}:∀ (rs:List (List α)),(∀ r ∈ rs,r.length=k)->∀ (i j:Nat) (row:List α) (v:α),rs[i]?=some row->row[j]?=some v->rs.flatten[i * k+j]?=some v
 | [],_,i,_,_,_,h,_=>by simp at h
 | r::rs,hk,i,j,row,v,h,hv=>by
  have hr:=hk r (List.mem_cons_self ..);rw [List.flatten_cons]
  cases i with
  | zero=>
   simp at h;subst h
   have hj:j<r.length:=(List.getElem?_eq_some_iff.1 hv).1
   rw [Nat.zero_mul,Nat.zero_add,List.getElem?_append_left hj];exact hv
  | succ i=>
   have:=fE rs (λx hx=>hk x (List.mem_cons_of_mem _ hx)) i j row v (by simpa using h) hv
   rw [List.getElem?_append_right (by rw [hr,Nat.add_mul];omega),← this]
   congr 1;rw [hr,Nat.add_mul];omega
theorem fq {α:Type} {k:Nat}:∀ (rs:List (List α)),(∀ r ∈ rs,r.length=k)->rs.flatten.length=rs.length * k
 | [],_=>by simp
 | r::rs,hk=>by
  rw [List.flatten_cons,List.length_append,fq rs (λx hx=>hk x (List.mem_cons_of_mem _ hx)),hk r (List.mem_cons_self ..),List.length_cons,Nat.add_mul];omega
theorem Rb.rows {ρ:Ren} {c k:Nat} {t:TypeId} {rs:List (List V)} {arr:Array Value} (hk:∀ r ∈ rs,r.length=k) (hv:Rvs ρ rs.flatten arr.toList):Rb ρ ⟨c,0,rs.length,k⟩ (some (.cells arr t (0,0))) (.rows t k false rs):=by
 have hl:=Rvs.length hv;rw [fq rs hk,Array.length_toList] at hl;refine ⟨rfl,arr,rfl,by rw [hl];simp,Nat.le_refl _,λ_=>⟨rfl,rfl⟩,λi row hi=>⟨hk row (List.mem_of_getElem? hi),λj v hj=>?_⟩⟩;obtain ⟨x,hx,h⟩:=hv.get' (fE rs hk i j row v hi hj);exact ⟨x,by rw [← hx,Array.getElem?_toList];congr 1;simp,h⟩
section
variable {Pr:Program} {m:Nat} {σ:Nat->Value} {w0:Base} {w:World} {ty t:TypeId} {ρ:Ren} {h:T Blk} {n:P} {k:Nat} {x:Operand} {cv z:Value}
theorem Rh.news (H:Rh w0 ρ h n w) (hn:ρ n=none) {w':World} {rs:List (List V)} {arr:Array Value} (hk:∀ r ∈ rs,r.length=k) (hv:Rvs ρ rs.flatten arr.toList) (ha:Al w w' (.cells arr t)) :
  Rh w0 (ρ.put n ⟨w.heap.size,0,rs.length,k⟩) (T.put (some (.rows t k false rs)) n h) n.succ w':=
 H.grow ha (.inr rfl) hn (by rw [P.num_succ];omega) (by rw [P.num_succ];omega) rfl ((Rb.rows hk hv).mono (Ren.le_put hn))
theorem Ren.put_same {b:P} {L:Loc}:(ρ.put b L) b=some L:=by simp [Ren.put]
end
end Go.Lk
namespace Go.Lk
open Go.Eng Go.RowKit
noncomputable def Lu (k:IntKind) (x y:Int):Int:=Int.rec (λa=>Int.rec (λb=>Bool.rec (k.wrap (x+y)) (Int.ofNat (Nat.add a b)) (Nat.ble (Nat.add a b) 127)) (λ_=>k.wrap (x+y)) y) (λ_=>k.wrap (x+y)) x
theorem iO (k:IntKind) {a:Nat} (h:a<=127):k.wrap (Int.ofNat a)=Int.ofNat a:=by
 have:∀ a,a<128->k.wrap (Int.ofNat a)=Int.ofNat a:=by cases k <;> decide
 exact this a (by omega)
theorem JY (k:IntKind) (x y:Int):Lu k x y=k.wrap (x+y):=by
 unfold Lu
 cases x with
 | negSucc a=>rfl
 | ofNat a=>cases y with
  | negSucc b=>rfl
  | ofNat b=>
   show (Bool.rec (k.wrap (Int.ofNat a+Int.ofNat b)) (Int.ofNat (Nat.add a b)) (Nat.ble (Nat.add a b) 127):Int)=_
   cases h:Nat.ble (Nat.add a b) 127 with
   | false=>rfl
   | true=>exact (iO k (Nat.le_of_ble_eq_true h)).symm
theorem dm (a b:Nat):Nat.blt a b=decide (a<b):=by rw [Bool.eq_iff_iff,Nat.blt_eq,decide_eq_true_iff]
theorem jf (a b:Nat):Nat.beq a b=decide (a=b):=by rw [Bool.eq_iff_iff,Nat.beq_eq,decide_eq_true_iff]
noncomputable def Mo (x y:Int):Bool:=Int.rec (λa=>Int.rec (λb=>Nat.blt a b) (λ_=>false) y) (λa=>Int.rec (λ_=>true) (λb=>Nat.blt b a) y) x
theorem mK (x y:Int):Mo x y=decide (x<y):=by
 cases x with
 | ofNat a=>cases y with
  | ofNat b=>exact (dm a b).trans (decide_eq_decide.2 (by simp))
  | negSucc b=>exact (decide_eq_false (by rw [Int.negSucc_eq];simp;omega)).symm
 | negSucc a=>cases y with
  | ofNat b=>exact (decide_eq_true (by rw [Int.negSucc_eq];simp;omega)).symm
  | negSucc b=>exact (dm b a).trans (decide_eq_decide.2 (by rw [Int.negSucc_eq,Int.negSucc_eq];omega))
noncomputable def JH (x y:Int):Bool:=Int.rec (λa=>Int.rec (λb=>Nat.beq a b) (λ_=>false) y) (λa=>Int.rec (λ_=>false) (λb=>Nat.beq a b) y) x
theorem tO (x y:Int):JH x y=decide (x=y):=by
 cases x with
 | ofNat a=>cases y with
  | ofNat b=>exact (jf a b).trans (decide_eq_decide.2 ⟨λh=>congrArg Int.ofNat h,λh=>Int.ofNat.inj h⟩)
  | negSucc b=>exact (decide_eq_false (by simp)).symm
 | negSucc a=>cases y with
  | ofNat b=>exact (decide_eq_false (by simp)).symm
  | negSucc b=>exact (jf a b).trans (decide_eq_decide.2 (by simp))
end Go.Lk
