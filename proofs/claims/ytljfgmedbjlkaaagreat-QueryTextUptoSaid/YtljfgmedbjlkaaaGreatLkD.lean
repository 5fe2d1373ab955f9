/- A lean reckoner for closed runs: regions that draw their order, the order's law. Over any program. -/
import Derived.Test.YtljfgmedbjlkaaaGreatEB
import Derived.OrdersIn
import Derived.OrdersHeld
import Derived.Test.YtljfgmedbjlkaaaGreatLkA
import Derived.DeepKeys3
namespace Go.Lk
open Go.Eng Go.RowKit
section
variable {P:Program} {ops:Array Oper} {Q:Exit->Act->World->Prop} {S:World->Prop}
abbrev KZ (P:Program) (ops:Array Oper) (Q:Exit->Act->World->Prop) (i:Nat) (K:Act->World->Prop) (a:Act) (w:World):Prop:=wpOpIn Fence.wide 0 P ops Q i K a w
theorem vC {i:Nat} {o:Oper} {v:Value} {a:Act} (hi:ops[i]?=some o) (hy:YieldsIf P ops S o v a) {K:Act->World->Prop} {w:World} (hS:S w) (h:K (a.put o.dst v) w):KZ P ops Q i K a w:=by
 unfold KZ wpOpIn;simp only [hi]
 rcases hy with ⟨hw,hv⟩ | ⟨hw,rfl⟩
 .simp only [hw,if_true,Oper.wpIn];refine ⟨λ_ _=>trivial,?_⟩;rw [show Oper.semAt Fence.wide.round a.eval o=execOp a.eval o from Oper.semAt_none _ _,hv w hS];exact h
 .simp only [hw,Bool.false_eq_true,if_false];exact ⟨λ_ _=>trivial,h⟩
theorem IB {j:Nat} {oi oj:Oper} {v:Value} (hj:ops[j]?=some oj) (hap:oi.apart ops oj=true)
  (hsi:∀ cs b,oi.op≠.select cs b) (hsj:∀ cs b,oj.op≠.select cs b)
  (hQ:∀ c a w,Q (.panic c) (a.put oi.dst v) w->Q (.panic c) a w) {K:Act->World->Prop} {a:Act} {w:World}
  (hy:YieldsIf P ops S oi v a) (h:KZ P ops Q j K (a.put oi.dst v) w) :
  KZ P ops Q j (λa' w'=>YieldsIf P ops S oi v a'/\K (a'.put oi.dst v) w') a w:=by
 obtain ⟨h1,h2,h3⟩:=Oper.apart_spec hap;have keep:∀ (a:Act),YieldsIf P ops S oi v a->∀ u,YieldsIf P ops S oi v (a.put oj.dst u):=λa hy u=>
  hy.of_same (execOp_put oi hsi a oj.dst u h3) (wanted_put oi a oj.dst u h3)
 have keepD:∀ d,YieldsIf P ops S oi v { a with defers:=d::a.defers }:=λd=>hy.of_same rfl rfl;have hro:Fence.wide.round=none:=rfl;unfold KZ wpOpIn at *;simp only [hj] at *;rw [wanted_put oj a oi.dst v h1] at h
 split
 .rename_i hw;simp only [hw,if_true] at h;unfold Oper.wpIn at *;refine ⟨λ_ _=>trivial,?_⟩;have h:=h.2;rw [hro,Oper.semAt_none,execOp_put oj hsj a oi.dst v h1] at h;rw [hro,Oper.semAt_none];generalize (execOp a.eval oj).run P w=r at *
  cases r with
  | ok x w'=>
   cases x <;> simp only [Oper.uponIn] at h ⊢
   case value u=>exact ⟨keep a hy u,by rw [← Act.put_comm a v u h2];exact h⟩
   case skip=>exact ⟨keep a hy _,by rw [← Act.put_comm a v undef h2];exact h⟩
   case defer d=>
    refine ⟨keep _ (keepD d) _,?_⟩
    rw [← Act.put_comm _ v undef h2,← Act.put_defers]
    exact h
   case enter f args=>
    refine ⟨h.1,CallsIn.mono h.2 λe w'' he=>?_⟩
    cases e with
    | returned u=>exact ⟨keep a hy u,by rw [← Act.put_comm a v u h2];exact he⟩
    | panicked c=>exact hQ _ _ _ he
    | outgrown=>exact he
   case row row args=>exact ⟨h.1,RowsIn.mono h.2 λu w'' he=>⟨keep a hy u,by rw [← Act.put_comm a v u h2];exact he⟩⟩
   case round l f tmps assign body=>
    refine ⟨h.1,RoundIn.mono h.2 λe w'' he=>?_⟩
    cases e with
    | returned u=>exact ⟨keep a hy u,by rw [← Act.put_comm a v u h2];exact he⟩
    | panicked c=>exact hQ _ _ _ he
    | outgrown=>exact he
  | halt x w'=>
   cases x <;> simp only [Oper.uponIn] at h ⊢
   case panic u=>exact hQ _ _ _ h
 .rename_i hw;simp only [hw] at h;exact ⟨λ_ _=>trivial,keep a hy _,by rw [← Act.put_comm a v undef h2];exact h.2⟩
def tZ (P:Program) (ops:Array Oper) (Q:Exit->Act->World->Prop) (Po:Nat->World->World->Prop):Nat->Array Bool->Act->World->Prop
 | 0,listed,a,w=>Region.ready .any ops listed=[]/\Q .normal a w
 | fuel+1,listed,a,w=>
  (Region.ready .any ops listed=[]->Q .normal a w)/\
  ∀ i ∈ Region.ready .any ops listed,KZ P ops Q i (λa' w'=>Po i w w'/\tZ P ops Q Po fuel (listed.setIfInBounds i true) a' w') a w
theorem pB {Po Po':Nat->World->World->Prop} (hpo:∀ i w w',Po i w w'->Po' i w w'):∀ (fuel:Nat) (listed:Array Bool) (a:Act) (w:World),tZ P ops Q Po fuel listed a w->tZ P ops Q Po' fuel listed a w
 | 0,_,_,_,h=>h
 | fuel+1,_,_,_,h=>⟨h.1,λi hi=>wpOpIn_mono (λa' w' h'=>⟨hpo _ _ _ h'.1,pB hpo fuel _ a' w' h'.2⟩) (h.2 i hi)⟩
theorem yZ {Po:Nat->World->World->Prop}:∀ (fuel:Nat) (listed:Array Bool) (a:Act) (w:World),tZ P ops Q Po fuel listed a w->wpAnyIn Fence.wide 0 P .any ops Q fuel listed a w
 | 0,_,_,_,h=>h
 | fuel+1,_,_,_,h=>⟨h.1,λi hi=>wpOpIn_mono (λa' w' h'=>yZ fuel _ a' w' h'.2) (h.2 i hi)⟩
theorem BA {Po:Nat->World->World->Prop} {i:Nat} {oi:Oper} {v:Value} (hi:ops[i]?=some oi) (hsel:∀ (j:Nat) (o:Oper) cs b,ops[j]?=some o->o.op≠.select cs b)
  (hQ:∀ c a w,Q (.panic c) (a.put oi.dst v) w->Q (.panic c) a w)
  (hS:∀ j,j≠i->reach ops i 5 j=false->∀ w w',S w->Po j w w'->S w') (hPo:∀ w,Po i w w) :
  ∀ (fuel:Nat) (listed:Array Bool) (a:Act) (w:World),Closed ops listed->
   (∀ j oj,ops[j]?=some oj->j≠i->listed.getD j true=false->(∀ e ∈ oj.after,Region.binds .any e=true->e.on≠i)->oi.apart ops oj=true)->
   i ∈ Region.ready .any ops listed->YieldsIf P ops S oi v a->S w->
   tZ P ops Q Po fuel (listed.setIfInBounds i true) (a.put oi.dst v) w->tZ P ops Q Po (fuel+1) listed a w:=by
 intro fuel
 induction fuel with
 | zero=>
  intro listed a w _ _ hr hy hSw H
  refine ⟨λh=>(by rw [h] at hr;cases hr),λj hj=>?_⟩
  by_cases hji:j=i
  .subst hji;exact vC hi hy hSw ⟨hPo w,H⟩
  .have:=ready_mono hj hji
   rw [H.1] at this
   cases this
 | succ fuel ih=>
  intro listed a w hcl hfree hr hy hSw H
  refine ⟨λh=>(by rw [h] at hr;cases hr),λj hj=>?_⟩
  by_cases hji:j=i
  .subst hji;exact vC hi hy hSw ⟨hPo w,H⟩
  .have h1:=H.2 j (ready_mono hj hji)
   obtain ⟨hjun,oj,hoj,hall⟩:=mem_ready.1 hj
   have hiun:listed.getD i false=true->False:=λh1=>by
    have h0:=(mem_ready.1 hr).1
    rcases Nat.lt_or_ge i listed.size with h' | h'
    .simp [h'] at h0 h1;rw [h0] at h1;cases h1
    .simp [Array.getElem?_eq_none h'] at h1
   have hnot:∀ e ∈ oj.after,Region.binds .any e=true->e.on≠i:=λe he hb heq=>hiun (heq▸hall e he hb)
   have hrn:reach ops i 5 j=false:=by
    cases hb:reach ops i 5 j
    .rfl
    .exact absurd (jP hcl 5 j oj hoj hall hb) (λh=>hiun h)
   have h2:=IB hoj (hfree j oj hoj hji hjun hnot) (λcs b=>hsel i oi cs b hi) (λcs b=>hsel j oj cs b hoj) hQ hy h1
   have hfree':∀ k ok,ops[k]?=some ok->k≠i->(listed.setIfInBounds j true).getD k true=false->
     (∀ e ∈ ok.after,Region.binds .any e=true->e.on≠i)->oi.apart ops ok=true:=λk ok hk hki hun hno=>by
    refine hfree k ok hk hki ?_ hno
    by_cases hjk:j=k
    .subst hjk;exact hjun
    .rw [getD_set_ne true hjk] at hun;exact hun
   refine wpOpIn_mono (λa' w' h3=>⟨h3.2.1,?_⟩) h2
   refine ih (listed.setIfInBounds j true) a' w' (hcl.set hj) hfree' (ready_mono hr (Ne.symm hji)) h3.1 (hS j hji hrn w w' hSw h3.2.1) ?_
   rw [Array.setIfInBounds_comm _ _ hji]
   exact h3.2.2
def vz (ops:Array Oper) (Ss:List (Nat × (World->Prop))) (j:Nat) (w w':World):Prop:=∀ x ∈ Ss,x.1≠j->reach ops x.1 5 j=false->x.2 w->x.2 w'
end
end Go.Lk
namespace Go.Lk
open Go.Eng Go.RowKit
noncomputable section
section on
variable {β:Type}
def V.onInt (f:IntKind->Int->Option β) (v:V):Option β:=V.rec (motive_1:=λ_=>Option β) (motive_2:=λ_=>PUnit)
 (λk x=>f k x) (λ_=>none) (λ_=>none) none (λ_ _ _=>none) none (λ_ _ _ _=>none) (λ_ _ _ _ _=>none) (λ_=>none) none none (λ_=>none) none (λ_ _ _=>none) (λ_ _=>none) (λ_ _=>none) (λ_=>none) ⟨⟩ (λ_ _ _ _=>⟨⟩) v
def V.onBool (f:Bool->Option β) (v:V):Option β:=V.rec (motive_1:=λ_=>Option β) (motive_2:=λ_=>PUnit)
 (λ_ _=>none) (λb=>f b) (λ_=>none) none (λ_ _ _=>none) none (λ_ _ _ _=>none) (λ_ _ _ _ _=>none) (λ_=>none) none none (λ_=>none) none (λ_ _ _=>none) (λ_ _=>none) (λ_ _=>none) (λ_=>none) ⟨⟩ (λ_ _ _ _=>⟨⟩) v
def V.onGuard (f:Bool->Option β) (g:Option β) (v:V):Option β:=V.rec (motive_1:=λ_=>Option β) (motive_2:=λ_=>PUnit)
 (λ_ _=>none) (λb=>f b) (λ_=>none) none (λ_ _ _=>none) none (λ_ _ _ _=>none) (λ_ _ _ _ _=>none) (λ_=>none) none none (λ_=>none) none (λ_ _ _=>none) (λ_ _=>none) (λ_ _=>g) (λ_=>none) ⟨⟩ (λ_ _ _ _=>⟨⟩) v
def V.onStr (f:List Nat->Option β) (v:V):Option β:=V.rec (motive_1:=λ_=>Option β) (motive_2:=λ_=>PUnit)
 (λ_ _=>none) (λ_=>none) (λl=>f l) none (λ_ _ _=>none) none (λ_ _ _ _=>none) (λ_ _ _ _ _=>none) (λ_=>none) none none (λ_=>none) none (λ_ _ _=>none) (λ_ _=>none) (λ_ _=>none) (λ_=>none) ⟨⟩ (λ_ _ _ _=>⟨⟩) v
def V.onPtr (f:P->Nat->Nat->Option β) (v:V):Option β:=V.rec (motive_1:=λ_=>Option β) (motive_2:=λ_=>PUnit)
 (λ_ _=>none) (λ_=>none) (λ_=>none) none (λb i j=>f b i j) none (λ_ _ _ _=>none) (λ_ _ _ _ _=>none) (λ_=>none) none none (λ_=>none) none (λ_ _ _=>none) (λ_ _=>none) (λ_ _=>none) (λ_=>none) ⟨⟩ (λ_ _ _ _=>⟨⟩) v
def V.onSl (g:Option β) (f:P->Nat->Nat->Option Nat->Option β) (v:V):Option β:=V.rec (motive_1:=λ_=>Option β) (motive_2:=λ_=>PUnit)
 (λ_ _=>none) (λ_=>none) (λ_=>none) none (λ_ _ _=>none) g (λb i l c=>f b i l c) (λ_ _ _ _ _=>none) (λ_=>none) none none (λ_=>none) none (λ_ _ _=>none) (λ_ _=>none) (λ_ _=>none) (λ_=>none) ⟨⟩ (λ_ _ _ _=>⟨⟩) v
def V.onFn (f:FuncId->List V->List V->Option β) (g:P->Option β) (v:V):Option β:=V.rec (motive_1:=λ_=>Option β) (motive_2:=λ_=>PUnit)
 (λ_ _=>none) (λ_=>none) (λ_=>none) none (λ_ _ _=>none) none (λ_ _ _ _=>none) (λh a b _ _=>f h a b) (λl=>g l) none none (λ_=>none) none (λ_ _ _=>none) (λ_ _=>none) (λ_ _=>none) (λ_=>none) ⟨⟩ (λ_ _ _ _=>⟨⟩) v
def V.onMap (g:Option β) (f:P->Option β) (v:V):Option β:=V.rec (motive_1:=λ_=>Option β) (motive_2:=λ_=>PUnit)
 (λ_ _=>none) (λ_=>none) (λ_=>none) none (λ_ _ _=>none) none (λ_ _ _ _=>none) (λ_ _ _ _ _=>none) (λ_=>none) none g (λb=>f b) none (λ_ _ _=>none) (λ_ _=>none) (λ_ _=>none) (λ_=>none) ⟨⟩ (λ_ _ _ _=>⟨⟩) v
def V.onAgg (f:List V->Option β) (v:V):Option β:=V.rec (motive_1:=λ_=>Option β) (motive_2:=λ_=>PUnit)
 (λ_ _=>none) (λ_=>none) (λ_=>none) none (λ_ _ _=>none) none (λ_ _ _ _=>none) (λ_ _ _ _ _=>none) (λ_=>none) none none (λ_=>none) none (λ_ _ _=>none) (λl _=>f l) (λ_ _=>none) (λ_=>none) ⟨⟩ (λ_ _ _ _=>⟨⟩) v
def V.onTup (f:List V->Option β) (v:V):Option β:=V.rec (motive_1:=λ_=>Option β) (motive_2:=λ_=>PUnit)
 (λ_ _=>none) (λ_=>none) (λ_=>none) none (λ_ _ _=>none) none (λ_ _ _ _=>none) (λ_ _ _ _ _=>none) (λ_=>none) none none (λ_=>none) none (λ_ _ _=>none) (λ_ _=>none) (λl _=>f l) (λ_=>none) ⟨⟩ (λ_ _ _ _=>⟨⟩) v
def V.onCells (f:List V->Option β) (v:V):Option β:=V.rec (motive_1:=λ_=>Option β) (motive_2:=λ_=>PUnit)
 (λk x=>f [.int k x]) (λb=>f [.bool b]) (λl=>f [.str l]) (f [.pnil]) (λb i j=>f [.ptr b i j]) (f [.snil]) (λb i l c=>f [.sl b i l c]) (λg a b _ _=>f [.fn g a b]) (λl=>f [.yield l]) (f [.fnil]) (f [.mnil]) (λb=>f [.map b]) (f [.inil]) (λt x _=>f [.iface t x]) (λl _=>f l) (λ_ _=>none) (λn=>f [.flt n]) ⟨⟩ (λ_ _ _ _=>⟨⟩) v
def V.onFlt (f:Nat->Option β) (v:V):Option β:=V.rec (motive_1:=λ_=>Option β) (motive_2:=λ_=>PUnit)
 (λ_ _=>none) (λ_=>none) (λ_=>none) none (λ_ _ _=>none) none (λ_ _ _ _=>none) (λ_ _ _ _ _=>none) (λ_=>none) none none (λ_=>none) none (λ_ _ _=>none) (λ_ _=>none) (λ_ _=>none) (λn=>f n) ⟨⟩ (λ_ _ _ _=>⟨⟩) v
def on {α:Type} (x:Option α) (f:α->Option β):Option β:=Option.rec none f x
end on
def iQ {β:Type} (f:Nat->Option β) (v:V):Option β:=V.onInt (λ_ x=>Int.rec f (λ_=>none) x) v
mutual
def tF:Nat->Value->Option V
 | 0,_=>none
 | f+1,v=>match v with
  | .int k x=>some (.int k x)
  | .bool b=>some (.bool b)
  | .string s=>some (.str (aH s))
  | .pointer none=>some .pnil
  | .slice none 0 0=>some .snil
  | .map none=>some .mnil
  | .nilFunc=>some .fnil
  | .nilIface=>some .inil
  | .float .f64 n=>some (.flt n)
  | .func (.func g) a b=>match jW f a.toList,jW f b.toList with
   | some x,some y=>some (.fn g x y)
   | _,_=>none
  | .agg cs=>match jW f cs.toList with
   | some l=>some (.agg l)
   | none=>none
  | .tuple cs=>match jW f cs.toList with
   | some l=>some (.tup l)
   | none=>none
  | .iface t x=>match tF f x with
   | some y=>some (.iface t y)
   | none=>none
  | _=>none
def jW:Nat->List Value->Option (List V)
 | 0,_=>none
 | _+1,[]=>some []
 | f+1,v::l=>match tF f v,jW f l with
  | some x,some y=>some (x::y)
  | _,_=>none
end
def aJ (x:Operand):T V->Option V:=Operand.rec (λt=>T.get (aB t)) (λv _=>tF 40 v) (λ_ _=>none) (λf _=>some (.fn f [] [])) x
def gq (l:List Operand):T V->Option (List V):=List.rec (λ_=>some []) (λx _ ih σ=>on (aJ x σ) λv=>on (ih σ) λm=>some (v::m)) l
def aS:V:=.tup []
def zh (m:Nat):T V:=Nat.rec .e (λi ih=>T.put (some aS) (aB i) ih) m
def fV (Pr:Program) (t:TypeId):Option (Option Nat):=match Pr.underlying t with
 | some (.struct _) | some (.array _ _)=>(Pr.info? t).map λi=>some i.size
 | some _=>some none
 | none=>none
def l6 (Pr:Program) (t:TypeId):Option Nat:=(Pr.info? t).map (·.size)
def pR (Pr:Program) (t:TypeId):Option V:=((Pr.info? t).bind (·.zero)).bind (tF 600)
def zN (Pr:Program) (t:TypeId):Option (List V):=on (pR Pr t) (V.onCells some)
def bI (Pr:Program) (s:TypeId) (f:Nat):Option Field:=match Pr.underlying s with
 | some (.struct fs)=>fs[f]?
 | _=>none
def vJ (Pr:Program) (t:TypeId):Option TypeId:=match Pr.underlying t with
 | some (.slice e)=>some e
 | _=>none
def D9 (Pr:Program) (t:TypeId):Option (Nat × TypeId):=match Pr.underlying t with
 | some (.array n e)=>some (n,e)
 | _=>none
section
variable {α β:Type}
def fF (l m:List α):List α:=List.rec m (λv _ ih=>v::ih) l
def bR (l:List α):Nat:=List.rec 0 (λ_ _ ih=>Nat.succ ih) l
def BC (f:α->β) (l:List α):List β:=List.rec [] (λv _ ih=>f v::ih) l
def ur (v:α) (n:Nat):List α:=Nat.rec [] (λ_ ih=>v::ih) n
def oz (l:List (List α)):List α:=List.rec [] (λv _ ih=>fF v ih) l
def IG (k:Nat) (n:Nat):List α->Option (List (List α)):=Nat.rec (λ_=>some []) (λ_ ih l=>on (bY k l) λr=>on (ih (dB k l)) λm=>some (r::m)) n
end
def zI (a:List Nat):List Nat->Bool:=List.rec (λb=>List.rec true (λ_ _ _=>false) b) (λx _ ih b=>List.rec false (λy m _=>Bool.rec false (ih m) (Nat.beq x y)) b) a
def JG (a:List Nat):List Nat->Bool:=List.rec (λb=>List.rec false (λ_ _ _=>true) b) (λx _ ih b=>List.rec false (λy m _=>Bool.rec (Bool.rec false (ih m) (Nat.beq x y)) true (Nat.blt x y)) b) a
def dP (b:Bool):Bool:=Bool.rec true false b
def PJ (a b:Bool):Bool:=Bool.rec b true a
def aM (k:IntKind):Nat:=IntKind.rec 0 1 2 3 4 5 6 7 k
def NV (k:IntKind) (x y:Int):Int:=Int.rec (λa=>Int.rec (λb=>Bool.rec (k.wrap (x-y)) (Int.ofNat (Nat.sub a b)) (Bool.rec false (Nat.ble a 127) (Nat.ble b a))) (λ_=>k.wrap (x-y)) y) (λ_=>k.wrap (x-y)) x
def Ee (f:IntKind->Int->Int->V) (v u:V):Option V:=V.onInt (λk x=>V.onInt (λj y=>Bool.rec none (some (f k x y)) (Nat.beq (aM k) (aM j))) u) v
def Ny (f:IntKind->Int->Int->V) (v u:V):Option V:=V.onInt (λk x=>V.onInt (λj y=>Bool.rec none (Bool.rec (some (f k x y)) none (JH y 0)) (Nat.beq (aM k) (aM j))) u) v
def Rq (f:IntKind->Int->Int->V) (v u:V):Option V:=V.onInt (λk x=>V.onInt (λ_ y=>Bool.rec (some (f k x y)) none (Mo y 0)) u) v
def Gu (fi:Int->Int->Bool) (fs:List Nat->List Nat->Bool) (ff:Option Ordering->Bool) (v u:V):Option V:=V.rec (motive_1:=λ_=>V->Option V) (motive_2:=λ_=>PUnit)
 (λk x=>V.onInt (λj y=>Bool.rec none (some (.bool (fi x y))) (Nat.beq (aM k) (aM j)))) (λ_ _=>none) (λa=>V.onStr (λb=>some (.bool (fs a b)))) (λ_=>none) (λ_ _ _ _=>none) (λ_=>none) (λ_ _ _ _ _=>none) (λ_ _ _ _ _ _=>none) (λ_ _=>none) (λ_=>none) (λ_=>none) (λ_ _=>none) (λ_=>none) (λ_ _ _ _=>none) (λ_ _ _=>none) (λ_ _ _=>none) (λa=>V.onFlt (λb=>some (.bool (ff (Flt.D.order a b))))) ⟨⟩ (λ_ _ _ _=>⟨⟩) v u
def Qw (v u:V):Option V:=V.rec (motive_1:=λ_=>V->Option V) (motive_2:=λ_=>PUnit)
 (λk x=>V.onInt (λj y=>Bool.rec none (some (.int k (Lu k x y))) (Nat.beq (aM k) (aM j)))) (λ_ _=>none) (λa=>V.onStr (λb=>Bool.rec none (some (.str (fF a b))) (Nat.ble (Nat.add (bR a) (bR b)) 1000000))) (λ_=>none) (λ_ _ _ _=>none) (λ_=>none) (λ_ _ _ _ _=>none) (λ_ _ _ _ _ _=>none) (λ_ _=>none) (λ_=>none) (λ_=>none) (λ_ _=>none) (λ_=>none) (λ_ _ _ _=>none) (λ_ _ _=>none) (λ_ _ _=>none) (λa=>V.onFlt (λb=>on (Flt.D.add a b) λr=>some (.flt r))) ⟨⟩ (λ_ _ _ _=>⟨⟩) v u
def RB (f:IntKind->Int->Int->Option V) (g:Nat->Nat->Option Nat) (v u:V):Option V:=V.rec (motive_1:=λ_=>V->Option V) (motive_2:=λ_=>PUnit)
 (λk x=>V.onInt (λj y=>Bool.rec none (f k x y) (Nat.beq (aM k) (aM j)))) (λ_ _=>none) (λ_ _=>none) (λ_=>none) (λ_ _ _ _=>none) (λ_=>none) (λ_ _ _ _ _=>none) (λ_ _ _ _ _ _=>none) (λ_ _=>none) (λ_=>none) (λ_=>none) (λ_ _=>none) (λ_=>none) (λ_ _ _ _=>none) (λ_ _ _=>none) (λ_ _ _=>none) (λa=>V.onFlt (λb=>on (g a b) λr=>some (.flt r))) ⟨⟩ (λ_ _ _ _=>⟨⟩) v u
def I5 (p q r:Bool) (o:Option Ordering):Bool:=Option.rec false (λo=>Ordering.rec p q r o) o
def jV (v:V):V->Option Bool:=V.rec (motive_1:=λ_=>V->Option Bool) (motive_2:=λ_=>PUnit)
 (λk x=>V.onInt (λj y=>Bool.rec none (some (JH x y)) (Nat.beq (aM k) (aM j)))) (λa=>V.onBool (λb=>some (Bool.rec (dP b) b a))) (λa=>V.onStr (λb=>some (zI a b)))
 (λ_=>none) (λ_ _ _ _=>none) (λ_=>none) (λ_ _ _ _ _=>none) (λ_ _ _ _ _ _=>none) (λ_ _=>none) (λ_=>none) (λ_=>none) (λ_ _=>none) (λ_=>none) (λ_ _ _ _=>none) (λ_ _ _=>none) (λ_ _ _=>none) (λ_ _=>none) ⟨⟩ (λ_ _ _ _=>⟨⟩) v
def qL (a:List V):List V->Option Bool:=List.rec (λb=>List.rec (some true) (λ_ _ _=>none) b) (λx _ ih b=>List.rec none (λy m _=>on (jV x y) λp=>on (ih m) λq=>some (Bool.rec false q p)) b) a
def nP (v u:V):Option Bool:=V.rec (motive_1:=λ_=>V->Option Bool) (motive_2:=λ_=>PUnit)
 (λk x=>jV (.int k x)) (λb=>jV (.bool b)) (λl=>jV (.str l)) (λ_=>none) (λ_ _ _ _=>none) (λ_=>none) (λ_ _ _ _ _=>none) (λ_ _ _ _ _ _=>none) (λ_ _=>none) (λ_=>none) (λ_=>none) (λ_ _=>none) (λ_=>none) (λ_ _ _ _=>none) (λl _=>V.onAgg (λm=>qL l m)) (λ_ _ _=>none) (λ_ _=>none) ⟨⟩ (λ_ _ _ _=>⟨⟩) v u
def Sg (v:V):Bool:=Option.rec false (λb=>b) (V.onBool (λ_=>some true) v)
def isS (v:V):Bool:=Option.rec false (λb=>b) (V.onStr (λl=>some (Nat.ble (bR l) 1000000)) v)
def RC (q:IntKind) (x:Int):Bool:=Int.rec (λa=>Bool.rec (Lit.wf (.int q x)) true (Nat.ble a 127)) (λ_=>Lit.wf (.int q x)) x
def Sw (q:IntKind) (v:V):Bool:=Option.rec false (λb=>b) (V.onInt (λk x=>some (Bool.rec false (RC q x) (Nat.beq (aM k) (aM q)))) v)
def Cx (f:V->Bool) (l:List V):Bool:=List.rec false (λv m _=>List.rec (f v) (λ_ _ _=>false) m) l
def EZ (o k:Nat) (f:List V->Bool) (l:List V):Bool:=Option.rec false f (bY k (dB o l))
def IX (n:Nat) (f:Nat->Bool):Bool:=Nat.rec true (λi ih=>Bool.rec false ih (f i)) n
def Gy (fs:List Field) (f:Field->Bool):Bool:=List.rec true (λx _ ih=>Bool.rec false ih (f x)) fs
def KT (Pr:Program):Nat->TypeId->(List V->Bool)
 | 0,_=>λ_=>false
 | d+1,t=>match Pr.underlying t with
  | some .bool=>Cx Sg
  | some (.int q)=>Cx (Sw q)
  | some .string=>Cx isS
  | some (.array n e)=>λcs=>Bool.rec false (IX n λi=>EZ (Nat.mul i (Pr.cellsOf e)) (Pr.cellsOf e) (KT Pr d e) cs) (Nat.beq (bR cs) (Pr.cellsOf t))
  | some (.struct fs)=>λcs=>Bool.rec false (Bool.rec false (Gy fs.toList λf=>EZ f.offset (Pr.cellsOf f.type) (KT Pr d f.type) cs) (Nat.beq (bR cs) (Pr.cellsOf t))) (fs.all (·.name != "_"))
  | _=>λ_=>false
def iX (Pr:Program) (t:TypeId):Bool:=match Pr.underlying t with
 | some (.array _ _) | some (.struct _)=>Pr.keyTypeAt 40 t && Pr.keyType t && Pr.tiled 40 t
 | _=>false
def iG (Pr:Program) (t:TypeId):V->Bool:=λv=>Option.rec false (λb=>b) (V.onAgg (λl=>some (KT Pr (Pr.types.size+1) t l)) v)
def ED (Pr:Program) (t:TypeId):V->Bool:=match Pr.underlying t with
 | some .string=>λv=>Option.rec false (λb=>b) (V.onStr (λ_=>some true) v)
 | some .bool=>Sg
 | some (.int q)=>Sw q
 | _=>Bool.rec (λ_=>false) (iG Pr t) (iX Pr t)
def eqD (Pr:Program) (t:TypeId) (c:Bool):V->V->Option Bool:=match Pr.underlying t with
 | some .bool=>λv u=>V.onBool (λa=>V.onBool (λb=>some (Bool.rec (dP b) b a)) u) v
 | some (.pointer _)=>λv u=>V.rec (motive_1:=λ_=>Option Bool) (motive_2:=λ_=>PUnit) (λ_ _=>none) (λ_=>none) (λ_=>none) (onP (some true) (some false) u) (λ_ _ _=>onP (some false) none u) none (λ_ _ _ _=>none) (λ_ _ _ _ _=>none) (λ_=>none) none none (λ_=>none) none (λ_ _ _=>none) (λ_ _=>none) (λ_ _=>none) (λ_=>none) ⟨⟩ (λ_ _ _ _=>⟨⟩) v
 | some (.slice _)=>λv u=>V.onSl (V.onSl (some true) (λ_ _ _ _=>some false) u) (λ_ _ _ _=>V.onSl (some false) (λ_ _ _ _=>none) u) v
 | some (.map _ _)=>λv u=>V.onMap (V.onMap (some true) (λ_=>some false) u) (λ_=>V.onMap (some false) (λ_=>none) u) v
 | some (.func _ _ _)=>λv u=>V.rec (motive_1:=λ_=>Option Bool) (motive_2:=λ_=>PUnit) (λ_ _=>none) (λ_=>none) (λ_=>none) none (λ_ _ _=>none) none (λ_ _ _ _=>none) (λ_ _ _ _ _=>onF (some false) none u) (λ_=>none) (onF (some true) (some false) u) none (λ_=>none) none (λ_ _ _=>none) (λ_ _=>none) (λ_ _=>none) (λ_=>none) ⟨⟩ (λ_ _ _ _=>⟨⟩) v
 | some (.interface _)=>λv u=>V.rec (motive_1:=λ_=>Option Bool) (motive_2:=λ_=>PUnit) (λ_ _=>none) (λ_=>none) (λ_=>none) none (λ_ _ _=>none) none (λ_ _ _ _=>none) (λ_ _ _ _ _=>none) (λ_=>none) none none (λ_=>none) (onI (Bool.rec none (some true) c) (some false) u) (λ_ _ _=>onI (some false) none u) (λ_ _=>none) (λ_ _=>none) (λ_=>none) ⟨⟩ (λ_ _ _ _=>⟨⟩) v
 | some (.struct _) | some (.array _ _)=>Bool.rec (λ_ _=>none) (λv u=>Bool.rec none (Bool.rec none (nP v u) (iG Pr t u)) (iG Pr t v)) (Bool.rec false (dP (Pr.eqGuardType Pr.depth t)) (iX Pr t))
 | _=>λ_ _=>none
where
 onP (x y:Option Bool) (u:V):Option Bool:=V.rec (motive_1:=λ_=>Option Bool) (motive_2:=λ_=>PUnit) (λ_ _=>none) (λ_=>none) (λ_=>none) x (λ_ _ _=>y) none (λ_ _ _ _=>none) (λ_ _ _ _ _=>none) (λ_=>none) none none (λ_=>none) none (λ_ _ _=>none) (λ_ _=>none) (λ_ _=>none) (λ_=>none) ⟨⟩ (λ_ _ _ _=>⟨⟩) u
 onF (x y:Option Bool) (u:V):Option Bool:=V.rec (motive_1:=λ_=>Option Bool) (motive_2:=λ_=>PUnit) (λ_ _=>none) (λ_=>none) (λ_=>none) none (λ_ _ _=>none) none (λ_ _ _ _=>none) (λ_ _ _ _ _=>y) (λ_=>none) x none (λ_=>none) none (λ_ _ _=>none) (λ_ _=>none) (λ_ _=>none) (λ_=>none) ⟨⟩ (λ_ _ _ _=>⟨⟩) u
 onI (x y:Option Bool) (u:V):Option Bool:=V.rec (motive_1:=λ_=>Option Bool) (motive_2:=λ_=>PUnit) (λ_ _=>none) (λ_=>none) (λ_=>none) none (λ_ _ _=>none) none (λ_ _ _ _=>none) (λ_ _ _ _ _=>none) (λ_=>none) none none (λ_=>none) x (λ_ _ _=>y) (λ_ _=>none) (λ_ _=>none) (λ_=>none) ⟨⟩ (λ_ _ _ _=>⟨⟩) u
def PP (Pr:Program) (t:TypeId) (c:Bool) (v u:V):Option Bool:=V.rec (motive_1:=λ_=>Option Bool) (motive_2:=λ_=>PUnit)
 (λk x=>jV (.int k x) u) (λb=>eqD Pr t c (.bool b) u) (λl=>jV (.str l) u) (eqD Pr t c .pnil u) (λb i j=>eqD Pr t c (.ptr b i j) u) (eqD Pr t c .snil u) (λb i l k=>eqD Pr t c (.sl b i l k) u) (λf a b _ _=>eqD Pr t c (.fn f a b) u) (λ_=>none) (eqD Pr t c .fnil u) (eqD Pr t c .mnil u) (λb=>eqD Pr t c (.map b) u) (eqD Pr t c .inil u) (λt' x _=>eqD Pr t c (.iface t' x) u) (λl _=>eqD Pr t c (.agg l) u) (λ_ _=>none)
 (λa=>V.onFlt (λb=>some (I5 false true false (Flt.D.order a b))) u) ⟨⟩ (λ_ _ _ _=>⟨⟩) v
def zD (Pr:Program) (t:TypeId) (c:Bool) (op:BinOp):V->V->Option V:=BinOp.rec (motive:=λ_=>V->V->Option V)
 Qw (RB (λk x y=>some (.int k (NV k x y))) λa b=>Flt.D.sub a b) (RB (λk x y=>some (.int k (k.wrap (x * y)))) λa b=>Flt.D.mul a b) (RB (λk x y=>Bool.rec (some (.int k (k.wrap (x.tdiv y)))) none (JH y 0)) λa b=>Flt.D.div a b) (Ny λk x y=>.int k (x.tmod y))
 (Ee λk x y=>.int k (k.wrap (BitVec.ofInt k.bits x &&& BitVec.ofInt k.bits y).toNat)) (Ee λk x y=>.int k (k.wrap (BitVec.ofInt k.bits x ||| BitVec.ofInt k.bits y).toNat)) (Ee λk x y=>.int k (k.wrap (BitVec.ofInt k.bits x ^^^ BitVec.ofInt k.bits y).toNat))
 (Rq λk x y=>.int k (k.wrap (x * 2 ^ (min y.toNat k.bits)))) (Rq λk x y=>.int k (x.fdiv (2 ^ (min y.toNat k.bits)))) (Ee λk x y=>.int k (k.wrap (BitVec.ofInt k.bits x &&& ~~~ BitVec.ofInt k.bits y).toNat))
 (λv u=>on (PP Pr t c v u) λb=>some (.bool b)) (λv u=>on (PP Pr t c v u) λb=>some (.bool (dP b)))
 (Gu Mo JG (I5 true false false)) (Gu (λx y=>dP (Mo y x)) (λa b=>dP (JG b a)) (I5 true true false)) (Gu (λx y=>Mo y x) (λa b=>JG b a) (I5 false false true)) (Gu (λx y=>dP (Mo x y)) (λa b=>dP (JG a b)) (I5 false true true)) op
def R7 (op:UnOp):V->Option V:=UnOp.rec (V.onInt λk x=>some (.int k (k.wrap (0-x)))) (V.onInt λk x=>some (.int k (k.wrap (BitVec.ofInt k.bits (if k.signed=true then -1 else k.max) ^^^ BitVec.ofInt k.bits x).toNat))) (V.onBool λb=>some (.bool (dP b))) (λ_=>none) op
end
end Go.Lk
namespace Go.Lk
open Go.Eng Go.RowKit
noncomputable section
def Ce (g:Option Nat):List V->Option V:=Option.rec (λl=>List.rec none (λv m _=>List.rec (some v) (λ_ _ _=>none) m) l) (λ_ l=>some (.agg l)) g
def lw (b:P) (i j:Nat) (h:T Blk):Option V:=on (T.get b h) (Blk.on2 (λrs=>on (oN i rs) λrow=>oN j row) (λl=>Bool.rec none (on (oN i l) λc=>some (.int .u8 (.ofNat c))) (Nat.beq j 0)))
def l5 (g:Option Nat):V->T Blk->Option V:=Option.rec (λv h=>V.onPtr (λb i j=>lw b i j h) v) (λk v h=>V.onPtr (λb i j=>on (l8 k b i j h) λl=>some (.agg l)) v) g
def uH (place:Nat->Option (Nat × Nat)) (parts:List (Nat × Operand)):T V->List V->Option (List V):=List.rec (λ_ l=>some l)
 (λp _ ih σ l=>Prod.rec (λi x=>on (place i) λos=>Prod.rec (λo s=>on (aJ x σ) (V.onCells λc=>Bool.rec none (on (gM c o l) λl'=>ih σ l') (Nat.beq (bR c) s))) os) p) parts
def A8 (Pr:Program) (t:TypeId):Option (Nat->Option (Nat × Nat)):=match Pr.underlying t with
 | some (.array _ e)=>(Pr.info? e).map λie=>λi=>some (i * ie.size,ie.size)
 | some (.struct fields)=>(fields.toList.mapM (λf=>(Pr.info? f.type).map λi=>(f.offset,i.size))).map λplaces=>λi=>places[i]?
 | _=>none
def xu (Pr:Program) (t:TypeId) (parts:List (Nat × Operand)):T V->Option V:=match A8 Pr t,zN Pr t with
 | some pl,some z=>λσ=>on (uH pl parts σ z) λl=>some (.agg l)
 | _,_=>λ_=>none
def Oq (v:V):Option V:=V.rec (motive_1:=λ_=>Option V) (motive_2:=λ_=>PUnit)
 (λk x=>some (.int k x)) (λb=>some (.bool b)) (λl=>some (.str l)) none (λb i j=>some (.ptr b i j)) (some .snil) (λb i l c=>some (.sl b i l c)) (λf a b _ _=>some (.fn f a b)) (λl=>some (.yield l)) none (some .mnil) (λb=>some (.map b)) none (λt v _=>some (.iface t v)) (λl _=>some (.agg l)) (λl _=>some (.tup l)) (λ_=>none) ⟨⟩ (λ_ _ _ _=>⟨⟩) v
def zL (d:Nat) (x:Option Operand) (σ:T V):Option Nat:=Option.rec (some d) (λx=>on (aJ x σ) (iQ some)) x
def rA (l:List Nat) (e a:Nat):Option V:=Bool.rec none (on (bY e l) λm=>some (.str (dB a m))) (Nat.ble a e)
def kr (b:P) (i:Nat) (c e a:Nat):Option V:=Bool.rec none (Bool.rec none (some (.sl b (Bool.rec (Nat.add i a) i (Nat.beq c a)) (Nat.sub e a) (some (Nat.sub c a)))) (Nat.ble e c)) (Nat.ble a e)
def lV (b:P) (i len:Nat) (e a:Nat):Option V:=Bool.rec none (Bool.rec none (Bool.rec (Bool.rec (Bool.rec none (some (.sl b (Nat.add 1099511627776 (Nat.add (Nat.mul 1048576 i) (Nat.add i a))) 0 none)) (Nat.blt (Nat.add i a) 1048576)) (some (.sl b i e none)) (Nat.beq a 0)) (Bool.rec none (some (.sl b (Nat.add i a) (Nat.sub e a) none)) (Nat.blt (Nat.add i a) 1099511627776)) (Nat.blt a len)) (Nat.ble e len)) (Nat.ble a e)
def mA (b:P) (es:Option Nat) (h:T Blk) {β:Type} (f:Option β):Option β:=on es λkk=>on (T.get b h) (Blk.onWid λk=>Bool.rec none f (Nat.beq k kk))
def Gq (st:Bool) (es:Option Nat) (lo hi:Option Operand) (v:V) (σ:T V) (h:T Blk):Option V:=V.rec (motive_1:=λ_=>Option V) (motive_2:=λ_=>PUnit)
 (λ_ _=>none) (λ_=>none) (λl=>Bool.rec none (on (zL (bR l) hi σ) λe=>on (zL 0 lo σ) λa=>rA l e a) st) none (λ_ _ _=>none) (on es λ_=>on (zL 0 hi σ) λe=>on (zL 0 lo σ) λa=>Bool.rec none (Bool.rec none (some .snil) (Nat.beq a 0)) (Nat.beq e 0))
 (λb i len c=>mA b es h (on (zL len hi σ) λe=>on (zL 0 lo σ) λa=>Option.rec (lV b i len e a) (λc=>kr b i c e a) c)) (λ_ _ _ _ _=>none) (λ_=>none) none none (λ_=>none) none (λ_ _ _=>none) (λ_ _=>none) (λ_ _=>none) (λ_=>none) ⟨⟩ (λ_ _ _ _=>⟨⟩) v
def Az (es:Option Nat) (lo:Option Operand) (hi mx:Operand) (v:V) (σ:T V) (h:T Blk):Option V:=V.onSl none (λb i len c=>mA b es h (on (zL 0 (some hi) σ) λe=>on (zL 0 lo σ) λa=>on (zL 0 (some mx) σ) λm=>
 Bool.rec none (Bool.rec none (kr b i m e a) (Nat.blt i 1099511627776)) (Nat.ble m (Option.rec len (λc=>c) c)))) v
def j3 (Pr:Program) (t:TypeId):Option Nat:=match vJ Pr t with
 | some e=>l6 Pr e
 | none=>none
def xn (Pr:Program) (t:TypeId):Bool:=match Pr.underlying t with
 | some .string=>true
 | _=>false
def Bu (Pr:Program) (t:TypeId) (lo hi mx:Option Operand) (v:V):T V->T Blk->Option V:=match mx with
 | none=>Gq (xn Pr t) (j3 Pr t) lo hi v
 | some m=>match hi with
  | some e=>Az (j3 Pr t) lo e m v
  | none=>λ_ _=>none
def mI (a:Option (Nat × Nat)) (es:Option Nat) (h:T Blk) (v:V) (i:Nat):Option V:=V.rec (motive_1:=λ_=>Option V) (motive_2:=λ_=>PUnit)
 (λ_ _=>none) (λ_=>none) (λ_=>none) none (λb r j=>on a λnk=>Prod.rec (λn k=>Bool.rec none (some (.ptr b r (Nat.add j (Nat.mul i k)))) (Nat.blt i n)) nk) none (λb o len _=>Bool.rec none (mA b es h (some (.ptr b (Nat.add o i) 0))) (Nat.blt i len)) (λ_ _ _ _ _=>none) (λ_=>none) none none (λ_=>none) none (λ_ _ _=>none) (λ_ _=>none) (λ_ _=>none) (λ_=>none) ⟨⟩ (λ_ _ _ _=>⟨⟩) v
def EW (Pr:Program) (t:TypeId):Option (Nat × Nat):=match D9 Pr t with
 | some (n,e)=>(l6 Pr e).map λk=>(n,k)
 | none=>none
def Gn (Pr:Program) (t:TypeId):Option (Nat × Nat × Option Nat):=match D9 Pr t with
 | some (n,e)=>match l6 Pr e,fV Pr e with
  | some k,some g=>some (n,k,g)
  | _,_=>none
 | none=>none
def zP (st:Bool) (a:Option (Nat × Nat × Option Nat)) (v:V) (i:Nat):Option V:=V.rec (motive_1:=λ_=>Option V) (motive_2:=λ_=>PUnit)
 (λ_ _=>none) (λ_=>none) (λl=>Bool.rec none (on (oN i l) λc=>some (.int .u8 (.ofNat c))) st) none (λ_ _ _=>none) none (λ_ _ _ _=>none) (λ_ _ _ _ _=>none) (λ_=>none) none none (λ_=>none) none (λ_ _ _=>none)
 (λl _=>on a λnk=>Bool.rec none (on (bY nk.2.1 (dB (Nat.mul i nk.2.1) l)) λm=>Ce nk.2.2 m) (Nat.blt i nk.1)) (λ_ _=>none) (λ_=>none) ⟨⟩ (λ_ _ _ _=>⟨⟩) v
def jE (o:Nat) (k:Nat) (g:Option Nat) (v:V):Option V:=V.onAgg (λl=>on (bY k (dB o l)) λm=>Ce g m) v
abbrev iP:=V × V × Nat
def dH {β:Type} (h:T Blk) (b:P) (f:List iP->Nat->Option β):Option β:=on (T.get b h) (Blk.onMap f)
def Kr (ok:V->Bool) (es:List iP):Bool:=List.rec true (λe _ ih=>Bool.rec false ih (ok e.1)) es
def FV {β:Type} (k:V) (f:Nat->iP->Option β) (g:Option β) (es:List iP):Nat->Option β:=List.rec (λ_=>g) (λe _ ih i=>on (nP k e.1) λb=>Bool.rec (ih (Nat.succ i)) (f i e) b) es
def pQ {β:Type} (ok:V->Bool) (k:V) (f:Nat->iP->Option β) (g:Option β) (es:List iP):Option β:=Bool.rec none (Bool.rec none (FV k f g es 0) (Kr ok es)) (ok k)
def KC (s:Nat) (v:V) (es:List iP):Option (List iP):=List.rec none (λe r ih=>Bool.rec (on ih λm=>some (e::m)) (some ((e.1,v,e.2.2)::r)) (Nat.beq e.2.2 s)) es
def nj (Pr:Program) (t:TypeId):V->Bool:=match Pr.underlying t with
 | some (.map k _)=>ED Pr k
 | _=>λ_=>false
def iA (Pr:Program) (t:TypeId):Option V:=match Pr.underlying t with
 | some (.map _ e)=>pR Pr e
 | _=>none
def CB (kt:V->Bool) (z:Option V) (ok:Bool) (m k:V) (h:T Blk):Option V:=
 V.onMap (Bool.rec none (on z λz=>some (Bool.rec z (.tup [z,.bool false]) ok)) (kt k)) (λb=>dH h b λes _=>pQ kt k (λ_ e=>some (Bool.rec e.2.1 (.tup [e.2.1,.bool true]) ok)) (on z λz=>some (Bool.rec z (.tup [z,.bool false]) ok)) es) m
def kF (b:P) (es:List iP) (c:Nat) (h:T Blk):T Blk:=T.put (some (.map es c)) b h
def Gh (kt:V->Bool) (m k v:V) (h:T Blk):Option (T Blk):=V.onMap none (λb=>dH h b λes c=>pQ kt k (λi e=>on (FX (e.1,v,e.2.2) i es) λes'=>some (kF b es' c h)) (some (kF b (fF es [(k,v,c)]) (Nat.succ c) h)) es) m
abbrev jI:=V × T Blk × P
inductive Task where
 | call (f:FuncId) (args:List V)
 | dcall (f:FuncId) (args:List V)
 | round (l:P) (args:List V)
abbrev fG:=Task->T Blk->P->Option jI
abbrev OX (β:Type):=fG->T V->T Blk->P->(V->T Blk->P->Option β)->Option β
class Jn (β:Type) where
 j:Option β->Option β->Option β
class JnOK (β:Type) [Jn β]:Prop where
 ok:∀ (x y:Option β) (r:β),Jn.j x y=some r->x=some r/\y=some r
instance jnProd {α γ:Type}:Jn (α × γ):=⟨λ_ _=>none⟩
instance jnProdOK {α γ:Type}:JnOK (α × γ):=⟨λ_ _ _ e=>by cases e⟩
instance jnV:Jn V:=⟨λ_ _=>none⟩
instance jnVOK:JnOK V:=⟨λ_ _ _ e=>by cases e⟩
instance jnUnit:Jn Unit:=⟨λx y=>Option.rec none (λ_=>y) x⟩
instance jnUnitOK:JnOK Unit:=⟨λx y r e=>by cases x <;> cases y <;> first | exact ⟨rfl,rfl⟩ | cases e⟩
inductive Cand where
 | mk (r:jI)
instance jnCand:Jn Cand:=⟨λx _=>x⟩
section
variable {β:Type} (Pr:Program)
def qx (q:T V->T Blk->Option V):OX β:=λ_ σ h n k=>on (q σ h) λv=>k v h n
def eB (B:Blk) (v:V) (h:T Blk) (n:P) (k:V->T Blk->P->Option β):Option β:=k v (T.put (some B) n h) (P.succ n)
def uo (t:TypeId) (l:List V):Blk:=.rows t (bR l) false [l]
def Ao (g:Option Nat) (a x:Operand):OX β:=λ_ σ h n k=>on (aJ a σ) λp=>on (aJ x σ) (V.onCells λc=>V.onPtr (λb i j=>on g λg=>
 Bool.rec none (Bool.rec none (on (jh c b i j h) λh'=>k aS h' n) (qe c)) (Nat.beq (bR c) g)) p)
def Qu (e:TypeId):Option (Nat × List V):=match Pr.info? e,zN Pr e with
 | some i,some z=>if bR z=i.size/\0<i.size then some (i.size,z) else none
 | _,_=>none
def jY (t:TypeId):Option (TypeId × Nat × List V):=match vJ Pr t with
 | some e=>(Qu Pr e).map λk=>(e,k)
 | none=>none
def kV (t:TypeId) (len:Nat) (parts:List (Nat × Operand)):OX β:=match jY Pr t with
 | some (e,k,z)=>if len * k<=16777216 then λ_ σ h n c=>on (uH (λi=>some (i * k,k)) parts σ (oz (ur z len))) λl=>on (IG k len l) λrs=>eB (.rows e k false rs) (.sl n 0 len (some len)) h n c else λ_ _ _ _ _=>none
 | none=>λ_ _ _ _ _=>none
def mQ (e:TypeId):Nat:=match Pr.info? e with
 | some i=>i.bytes
 | none=>0
def gB (t:TypeId) (l c:Operand):OX β:=match jY Pr t with
 | some (e,k,z)=>λ_ σ h n f=>on (aJ l σ) λl=>on (aJ c σ) λc=>iQ (λl=>iQ (λc=>Bool.rec none (Bool.rec none (Bool.rec none (eB (.rows e k false (ur z c)) (.sl n 0 l (some c)) h n f) (Nat.ble (Nat.mul (mQ Pr e) c) 281474976710656)) (Nat.ble c 100000)) (Nat.ble l c)) c) l
 | none=>λ_ _ _ _ _=>none
def lS (b:P) (i:Nat) (new:List (List V)) (h:T Blk):Option (T Blk):=on (T.get b h) (Blk.onRows λt k op rs=>on (gM new i rs) λrs'=>some (T.put (some (.rows t k op rs')) b h))
def Qo (e:TypeId):Option (Nat × Nat):=match Pr.info? e with
 | some i=>match i.zero with
  | some z=>if z.cells.size=i.size/\0<i.size/\0<i.bytes then some (i.size,i.bytes) else none
  | none=>none
 | none=>none
def uP (e:TypeId) (kk:Nat) (rows:List (List V)) (len:Nat) (h:T Blk) (n:P) (k:V->T Blk->P->Option β):Option β:=eB (.rows e kk true rows) (.sl n 0 len none) h n k
def jm (kk:Nat) (b:P) (i len:Nat) (h:T Blk) (f:List (List V)->Option β):Option β:=on (T.get b h) (Blk.onRows λ_ k _ rs=>Bool.rec none (on (bY len (dB i rs)) f) (Nat.beq k kk))
def mC (e:TypeId) (kk:Nat) (b:P) (i len:Nat) (h:T Blk) (f:List (List V)->Option β):Option β:=on (T.get b h) (Blk.onRows λt k _ rs=>Bool.rec none (Bool.rec none (on (bY len (dB i rs)) f) (Nat.beq k kk)) (Nat.beq t e))
def dU (kk:Nat) (b:P) (i len:Nat) (h:T Blk) (f:List (List V)->Option β):Option β:=on (T.get b h) (Blk.rec (λ_ k _ rs=>Bool.rec none (on (bY len (dB i rs)) f) (Nat.beq k kk)) (λ_ _=>none) (λ_ _=>none) (λ_ _ _ _=>none) (λ_ _ _ _ _ _ _ _=>none) (λ_=>none)
 (λl=>Bool.rec none (on (bY len (dB i l)) λm=>f (BC (λc=>[.int .u8 (.ofNat c)]) m)) (Nat.beq kk 1)))
def qN (e:TypeId) (kk by_:Nat) (new:List (List V)) (m:Nat) (s:V) (h:T Blk) (n:P) (k:V->T Blk->P->Option β):Option β:=
 V.onSl (Bool.rec none (uP e kk new m h n k) (Nat.ble (Nat.mul m by_) 140737488355328)) (λb i len c=>Bool.rec none (Bool.rec none
  (Option.rec (mC e kk b i len h λold=>uP e kk (fF old new) (Nat.add len m) (T.put none b h) n k)
   (λc=>Bool.rec (jm kk b i len h λold=>uP e kk (fF old new) (Nat.add len m) h n k)
    (jm kk b i len h λ_=>on (lS b (Nat.add i len) new h) λh'=>k (.sl b i (Nat.add len m) (some c)) h' n) (Nat.ble (Nat.add len m) c)) c)
  (Nat.ble (Nat.mul (Nat.add len m) by_) 140737488355328)) (qe (oz new))) s
def C4 (e:TypeId) (kk by_:Nat) (s x:V) (h:T Blk) (n:P) (k:V->T Blk->P->Option β):Option β:=
 V.onSl (V.onSl (k s h n) (λ_ _ _ _=>k s h n) s) (λb i m _=>Bool.rec (dU kk b i m h λnew=>qN e kk by_ new m s h n k) (V.onSl (k s h n) (λ_ _ _ _=>k s h n) s) (Nat.beq m 0)) x
def wR (e:TypeId) (kk by_:Nat) (s:V) (l:List Nat) (h:T Blk) (n:P) (k:V->T Blk->P->Option β):Option β:=
 Bool.rec (qN e kk by_ (BC (λc=>[.int .u8 (.ofNat c)]) l) (bR l) s h n k) (V.onSl (k s h n) (λ_ _ _ _=>k s h n) s) (Nat.beq (bR l) 0)
def wC (t:TypeId):Option (TypeId × Nat × Nat):=match vJ Pr t with
 | some e=>(Qo Pr e).map λk=>(e,k)
 | none=>none
def Aj (f:V->T Blk->P->(V->T Blk->P->Option β)->Option β) (as:List V) (h:T Blk) (n:P) (k:V->T Blk->P->Option β):Option β:=List.rec none (λx r _=>List.rec (f x h n k) (λ_ _ _=>none) r) as
def xE (f:V->V->T Blk->P->(V->T Blk->P->Option β)->Option β) (as:List V) (h:T Blk) (n:P) (k:V->T Blk->P->Option β):Option β:=List.rec none (λx r _=>List.rec none (λy r _=>List.rec (f x y h n k) (λ_ _ _=>none) r) r) as
def J9 (x y:Nat):Option Nat:=Bool.rec (Bool.rec (Bool.rec none (Bool.rec none (some x) (Nat.beq x y)) (I5 false true false (Flt.D.order x y))) (some y) (I5 false false true (Flt.D.order x y))) (some x) (I5 true false false (Flt.D.order x y))
def Lm (v u:V):Option V:=V.onInt (λk x=>V.onInt (λj y=>Bool.rec none (some (.int k (Bool.rec x y (Mo x y)))) (Nat.beq (aM k) (aM j))) u) v
def OK (v u:V):Option V:=V.rec (motive_1:=λ_=>Option V) (motive_2:=λ_=>PUnit)
 (λk x=>V.onInt (λj y=>Bool.rec none (some (.int k (Bool.rec x y (Mo y x)))) (Nat.beq (aM k) (aM j))) u) (λ_=>none) (λ_=>none) none (λ_ _ _=>none) none (λ_ _ _ _=>none) (λ_ _ _ _ _=>none) (λ_=>none) none none (λ_=>none) none (λ_ _ _=>none) (λ_ _=>none) (λ_ _=>none)
 (λa=>V.onFlt (λb=>on (J9 a b) λc=>some (.flt c)) u) ⟨⟩ (λ_ _ _ _=>⟨⟩) v
def aR (b:Builtin) (ts:Array TypeId):List V->T Blk->P->(V->T Blk->P->Option β)->Option β:=match b with
 | .len=>match (ts[0]?).bind Pr.underlying with
  | some .string=>Aj λx h n k=>V.onStr (λl=>k (.int .i64 (.ofNat (bR l))) h n) x
  | some (.slice _)=>Aj λx h n k=>V.onSl (k (.int .i64 0) h n) (λ_ _ len _=>k (.int .i64 (.ofNat len)) h n) x
  | some (.map _ _)=>Aj λx h n k=>V.onMap (k (.int .i64 0) h n) (λb=>dH h b λes _=>k (.int .i64 (.ofNat (bR es))) h n) x
  | _=>λ_ _ _ _=>none
 | .cap=>match (ts[0]?).bind Pr.underlying with
  | some (.slice _)=>Aj λx h n k=>V.onSl (k (.int .i64 0) h n) (λ_ _ _ c=>Option.rec none (λc=>k (.int .i64 (.ofNat c)) h n) c) x
  | _=>λ_ _ _ _=>none
 | .append=>match ts[0]? with
  | some t=>match wC Pr t with
   | some (e,kk,by_)=>if ts=#[t,t] then xE λs x h n k=>C4 e kk by_ s x h n k
    else match (ts[1]?).bind Pr.underlying,kk with
     | some .string,1=>xE λs x h n k=>V.onStr (λl=>wR e kk by_ s l h n k) x
     | _,_=>λ_ _ _ _=>none
   | none=>λ_ _ _ _=>none
  | none=>λ_ _ _ _=>none
 | .min=>xE λx y h n k=>on (OK x y) λc=>k c h n
 | .max=>xE λx y h n k=>on (Lm x y) λc=>k c h n
 | .clear=>match (ts[0]?).bind Pr.underlying with
  | some (.map _ _)=>Aj λx h n k=>V.onMap (k (.tup []) h n) (λb=>dH h b λ_ c=>k (.tup []) (kF b [] c h) n) x
  | some (.slice _)=>match (ts[0]?).bind (jY Pr) with
   | some (_,kk,z)=>Aj λx h n k=>V.onSl (k (.tup []) h n) (λb i len _=>Bool.rec (Bool.rec none (jm kk b i len h λ_=>on (lS b i (ur z len) h) λh'=>k (.tup []) h' n) (qe (oz (ur z len)))) (k (.tup []) h n) (Nat.beq len 0)) x
   | none=>λ_ _ _ _=>none
  | _=>λ_ _ _ _=>none
 | _=>λ_ _ _ _=>none
def vQ (run:fG) (f:V) (as:List V) (h:T Blk) (n:P) (k:V->T Blk->P->Option β):Option β:=
 V.onFn (λf a b=>on (run (.call f (fF a (fF as b))) h n) λr=>Prod.rec (λv hn=>Prod.rec (λh n=>k v h n) hn) r) (λl=>on (run (.round l as) h n) λr=>Prod.rec (λv hn=>Prod.rec (λh n=>k v h n) hn) r) f
def V.onIface {β:Type} (f:TypeId->V->Option β) (v:V):Option β:=V.rec (motive_1:=λ_=>Option β) (motive_2:=λ_=>PUnit)
 (λ_ _=>none) (λ_=>none) (λ_=>none) none (λ_ _ _=>none) none (λ_ _ _ _=>none) (λ_ _ _ _ _=>none) (λ_=>none) none none (λ_=>none) none (λt x _=>f t x) (λ_ _=>none) (λ_ _=>none) (λ_=>none) ⟨⟩ (λ_ _ _ _=>⟨⟩) v
def Dw (t:TypeId) (name:String):Option FuncId:=match Pr.info? t with
 | some i=>match i.methods.find? (·.name == name) with
  | some m=>match m.path.toList,m.func,Pr.underlying t with
   | [],some (f,true),some (.pointer _)=>some f
   | _,_,_=>none
  | none=>none
 | none=>none
def Q0 (c:Call):OX β:=Call.rec (λcallee as ts=>Callee.rec (λf run σ h n k=>on (aJ f σ) λf=>on (gq as.toList σ) λas=>vQ run f as h n k)
 (λx name run σ h n k=>on (aJ x σ) λx=>on (gq as.toList σ) λas=>V.onIface (λt y=>on (Dw Pr t name) λf=>vQ run (.fn f [y] []) as h n k) x) (λb=>λ_ σ h n k=>on (gq as.toList σ) λas=>aR Pr b ts as h n k) callee) c
def gC (rs:List (List V)):Option (List Nat):=List.rec (some []) (λr _ ih=>List.rec none (λv _ _=>V.onInt (λk x=>Bool.rec none (Int.rec (λc=>Bool.rec none (on ih λl=>some (c::l)) (Nat.blt c 256)) (λ_=>none) x) (Nat.beq (aM k) 4)) v) r) rs
inductive CK where
 | int (k:IntKind)
 | flt
 | str (bs:Bool)
 | bytes (e:TypeId)
 | no
def PN (e:TypeId):Bool:=match Pr.underlying e with
 | some (.int .u8)=>true
 | _=>false
def qK (t:TypeId):Bool:=match Pr.underlying t with
 | some (.slice e)=>PN Pr e
 | _=>false
def gL (s d:TypeId):CK:=match Pr.underlying s,Pr.underlying d with
 | some _,some (.int k)=>.int k
 | some _,some (.float .f64)=>.flt
 | some _,some .string=>.str (qK Pr s)
 | some _,some (.slice e)=>if PN Pr e then .bytes e else .no
 | _,_=>.no
def nJ (h:T Blk) (n:P) (f:V->T Blk->P->Option β) (bs:Bool) (v:V):Option β:=V.rec (motive_1:=λ_=>Option β) (motive_2:=λ_=>PUnit)
 (λ_ _=>none) (λ_=>none) (λl=>f (.str l) h n) none (λ_ _ _=>none) (Bool.rec none (f (.str []) h n) bs) (λb i len _=>Bool.rec none (dU 1 b i len h λm=>on (gC m) λl=>f (.str l) h n) bs) (λ_ _ _ _ _=>none) (λ_=>none) none none (λ_=>none) none (λ_ _ _=>none) (λ_ _=>none) (λ_ _=>none) (λ_=>none) ⟨⟩ (λ_ _ _ _=>⟨⟩) v
def PY (s d:TypeId) (x:Operand):OX β:=CK.rec
 (λk=>qx λσ _=>on (aJ x σ) (V.onInt λ_ a=>some (.int k (k.wrap a))))
 (qx λσ _=>on (aJ x σ) (V.onInt λ_ a=>some (.flt (iR a))))
 (λbs _ σ h n f=>on (aJ x σ) (nJ h n f bs))
 (λ_ _ σ h n f=>on (aJ x σ) (V.onStr λl=>Bool.rec (eB (.fz l) (.sl n 0 (bR l) none) h n f) none (Nat.beq (bR l) 0)))
 (λ_ _ _ _ _=>none) (gL Pr s d)
def qz (x:Nat) (l:List Nat):Bool:=List.rec false (λa _ ih=>Bool.rec ih true (Nat.beq a x)) l
def oW (seen:List Nat) (es:List iP):List iP:=List.rec [] (λe _ ih=>Bool.rec (e::ih) ih (qz e.2.2 seen)) es
def CP (last:Nat) (es:List iP):Bool:=List.rec false (λe _ ih=>Bool.rec ih true (Nat.blt e.2.2 last)) es
def F3 (seen:List Nat) (es:List iP) (last:Nat):Bool:=List.rec true (λ_ _ _=>List.rec true (λ_ _ _=>CP last es) es) seen
def Cv (r:P) (l:List Nat) (p:Nat) (h:T Blk) (n:P) (k:V->T Blk->P->Option β):Option β:=
 List.rec (k (.tup [.bool false]) h n) (λc l' _=>Bool.rec none (k (.tup [.bool true,.int .i64 (.ofNat p),.int .i32 (.ofNat c)]) (T.put (some (.strIter l' (Nat.succ p))) r h) n) (Nat.blt c 128)) l
section
variable [Jn β]
def qC (f:iP->Option β) (l:List iP):Option β:=List.rec none (λe rest ih=>List.rec (f e) (λ_ _ _=>Jn.j (f e) ih) rest) l
def qQ (r m:P) (since:Nat) (seen:List Nat) (last:Nat) (h:T Blk) (n:P) (k:V->T Blk->P->Option β):Option β:=dH h m λes c=>Bool.rec none
 (List.rec (k (.tup [.bool false]) h n) (λ_ _ _=>qC (λe=>Bool.rec none (k (.tup [.bool true,e.1,e.2.1]) (T.put (some (.mapIter (some m) since (e.2.2::seen) c)) r h) n) (Nat.blt e.2.2 since)) (oW seen es)) (oW seen es)) (F3 seen es last)
end
def Blk.onStrI (f:List Nat->Nat->Option β) (B:Blk):Option β:=Blk.rec (λ_ _ _ _=>none) (λ_ _=>none) f (λ_ _ _ _=>none) (λ_ _ _ _ _ _ _ _=>none) (λ_=>none) (λ_=>none) B
def Blk.onMapI (f:Option P->Nat->List Nat->Nat->Option β) (B:Blk):Option β:=Blk.rec (λ_ _ _ _=>none) (λ_ _=>none) (λ_ _=>none) f (λ_ _ _ _ _ _ _ _=>none) (λ_=>none) (λ_=>none) B
section
variable [Jn β]
def FQ (it:Operand) (isStr:Bool):OX β:=Bool.rec
 (λ_ σ h n k=>on (aJ it σ) (V.onPtr λr _ j=>Bool.rec none (on (T.get r h) (Blk.onMapI λm since seen last=>Option.rec (k (.tup [.bool false]) h n) (λm=>qQ r m since seen last h n k) m)) (Nat.beq j 0)))
 (λ_ σ h n k=>on (aJ it σ) (V.onPtr λr _ j=>Bool.rec none (on (T.get r h) (Blk.onStrI λl p=>Cv r l p h n k)) (Nat.beq j 0))) isStr
end
def QS (s:Nat) (es:List iP):Option V:=List.rec none (λe _ ih=>Bool.rec ih (some (.tup [e.1,e.2.1])) (Nat.beq e.2.2 s)) es
def wh (it:Operand) (σ:T V) (h:T Blk):Option V:=on (aJ it σ) (V.onPtr λr _ j=>Bool.rec none (on (T.get r h) (Blk.onMapI λm _ seen last=>on m λm=>List.rec none (λs _ _=>dH h m λes c=>Bool.rec none (QS s es) (Nat.beq c last)) seen)) (Nat.beq j 0))
def v7 (t:TypeId):V->T Blk->P->(V->T Blk->P->Option β)->Option β:=match Pr.underlying t with
 | some .string=>λv h n f=>V.onStr (λl=>eB (.strIter l 0) (.ptr n 0 0) h n f) v
 | some (.map _ _)=>λv h n f=>V.onMap (eB (.mapIter none 0 [] 0) (.ptr n 0 0) h n f) (λb=>dH h b λ_ c=>eB (.mapIter (some b) c [] c) (.ptr n 0 0) h n f) v
 | _=>λ_ _ _ _=>none
def Gs (t:TypeId):Bool:=match Pr.underlying t with
 | some (.map _ _)=>true
 | _=>false
def Ci (t:TypeId):Bool:=match Pr.underlying t with
 | some (.interface _)=>false
 | some _=>true
 | none=>false
def CX (x:Operand):Bool:=Operand.rec (λ_=>false) (λ_=>true) (λ_=>false) (λ_=>false) x
def ye [Jn β] (op:Op):OX β:=Op.rec (motive:=λ_=>OX β)
 (λx=>qx λσ _=>aJ x σ) (λx=>qx λσ _=>aJ x σ)
 (λc a b=>qx λσ _=>on (aJ c σ) (V.onBool λt=>Bool.rec (aJ b σ) (aJ a σ) t))
 (λt=>Option.rec (λ_ _ _ _ _=>none) (λz _ _ h n k=>eB (uo t z) (.ptr n 0 0) h n k) (zN Pr t))
 (λt x _ σ h n k=>on (aJ x σ) (V.onCells λc=>eB (uo t c) (.ptr n 0 0) h n k))
 (λt parts=>qx λσ _=>xu Pr t parts.toList σ)
 (λt len parts=>kV Pr t len parts.toList)
 (λt m k v _ σ h n f=>on (aJ m σ) λm=>on (aJ k σ) λk=>on (aJ v σ) λv=>on (Gh (nj Pr t) m k v h) λh'=>f aS h' n)
 (λt a=>Option.rec (λ_ _ _ _ _=>none) (λg=>qx λσ h=>on (aJ a σ) λv=>l5 g v h) (fV Pr t))
 (λt a x=>Ao (l6 Pr t) a x)
 (λ_ _ _ _ _ _=>none) (λ_ _ _ _ _ _=>none)
 (λx=>qx λσ _=>on (aJ x σ) Oq)
 (λop t x y _=>qx λσ _=>on (aJ x σ) λa=>on (aJ y σ) λb=>zD Pr t (PJ (CX x) (CX y)) op a b)
 (λop _ x=>qx λσ _=>on (aJ x σ) (R7 op))
 (λs d x=>PY Pr s d x)
 (λ_ _ _ _ _ _ _=>none)
 (λt x=>qx λσ _=>Bool.rec none (on (aJ x σ) λv=>some (.iface t v)) (Ci Pr t))
 (λg first captured=>match g with | .func f=>qx λσ _=>on (gq first.toList σ) λa=>on (gq captured.toList σ) λb=>some (.fn f a b) | _=>λ_ _ _ _ _=>none)
 (λt rs=>Option.rec (λ_ _ h n k=>eB (.map [] 0) (.map n) h n k) (λx _ σ h n k=>Bool.rec none (on (aJ x σ) (V.onInt λ_ _=>eB (.map [] 0) (.map n) h n k)) (Gs Pr t)) rs)
 (λ_ _ _ _ _ _ _=>none)
 (λt l c=>gB Pr t l c)
 (λt x lo hi mx=>qx λσ h=>on (aJ x σ) λv=>Bu Pr t lo hi mx v σ h)
 (λs x f=>match bI Pr s f with | some fl=>(match l6 Pr fl.type with | some (_+1)=>qx λσ _=>on (aJ x σ) (V.onPtr λb i j=>some (.ptr b i (Nat.add j fl.offset))) | _=>λ_ _ _ _ _=>none) | none=>λ_ _ _ _ _=>none)
 (λs x f=>match bI Pr s f with | some fl=>(match l6 Pr fl.type,fV Pr fl.type with | some k,some g=>qx λσ _=>on (aJ x σ) (jE fl.offset k g) | _,_=>λ_ _ _ _ _=>none) | none=>λ_ _ _ _ _=>none)
 (λt x i=>qx λσ h=>on (aJ x σ) λv=>on (aJ i σ) (iQ λi=>mI (EW Pr t) (j3 Pr t) h v i))
 (λt x i=>qx λσ _=>on (aJ x σ) λv=>on (aJ i σ) (iQ λi=>zP (xn Pr t) (Gn Pr t) v i))
 (λt m k ok=>qx λσ h=>on (aJ m σ) λm=>on (aJ k σ) λk=>CB (nj Pr t) (iA Pr t) ok m k h)
 (λt m k v _ σ h n f=>on (aJ m σ) λm=>on (aJ k σ) λk=>on (aJ v σ) λv=>on (Gh (nj Pr t) m k v h) λh'=>f aS h' n)
 (λt m k _ σ h n f=>on (aJ m σ) λm=>on (aJ k σ) λk=>V.onMap none (λb=>dH h b λes c=>
  pQ (nj Pr t) k (λ_ e=>f (.tup [e.2.1,.int .i64 (.ofNat e.2.2)]) h n) (on (iA Pr t) λz=>f (.tup [z,.int .i64 (.ofNat c)]) (kF b (fF es [(k,z,c)]) (Nat.succ c) h) n) es) m)
 (λ_ m s v _ σ h n f=>on (aJ m σ) λm=>on (aJ s σ) λs=>on (aJ v σ) λv=>V.onMap none (λb=>iQ (λs=>dH h b λes c=>on (KC s v es) λes'=>f aS (kF b es' c h) n) s) m)
 (λt x _ σ h n f=>on (aJ x σ) λv=>v7 Pr t v h n f)
 (λit s=>FQ it s)
 (λit=>qx λσ h=>wh it σ h)
 (λ_ _ _ _ _ _ _ _ _=>none)
 (λx i=>qx λσ _=>on (aJ x σ) (V.onTup λl=>oN i l))
 (λc=>Q0 Pr c)
 (λ_ _ _ _ _ _=>none) (λ_ _ _ _ _ _=>none) (λ_ _ _ _ _ _=>none) (λ_ _ _ _ _ _ _=>none) (λ_ _ _ _ _ _ _ _=>none) (λ_ _ _ _ _ _ _=>none) op
end
end
end Go.Lk
namespace Go.Lk
open Go.Eng Go.RowKit
noncomputable section
inductive D where
 | call (f:FuncId) (args:List V)
 | mark (b:P)
abbrev KN (β:Type):=T V->List D->T Blk->P->Option β
abbrev EX (β:Type):=fG->Option P->T V->List D->T Blk->P->KN β->(X->KN β)->Option β
section
variable {β:Type} [Jn β] (Pr:Program)
def ep (d:Option Nat):V->T V->T V:=Option.rec (λ_ σ=>σ) (λd v σ=>T.set v (aB d) σ) d
def FR (o:Oper) (run:fG) (rd:Option P) (σ:T V) (ds:List D) (h:T Blk) (n:P) (k:KN β):Option β:=
 Oper.rec (λdst op _ _ _ _=>dfrX dst (ye Pr op run σ h n λv h n=>k (ep dst v σ) ds h n) rd σ ds h n k op) o
where dfrX (dst:Option Nat) (other:Option β) (rd:Option P) (σ:T V) (ds:List D) (h:T Blk) (n:P) (k:KN β) (op:Op):Option β:=match op with
 | .defer c=>match c.callee with
  | .value f=>on (aJ f σ) λf=>on (gq c.args.toList σ) λas=>V.onFn (λf a b=>Option.rec (k (ep dst aS σ) (.call f (fF a (fF as b))::ds) h n) (λ_=>none) rd) (λ_=>none) f
  | _=>none
 | _=>other
def dK (op:Op):Bool:=match op with
 | .defer _=>true
 | _=>false
def Ip (ops:Array Oper) (o:Oper):fG->Option P->T V->List D->T Blk->P->KN β->Option β:=
 Oper.rec (λdst op ty pos af g=>Option.rec (Bool.rec (λrun _ σ ds h n k=>ye Pr op run σ h n λv h n=>k (ep dst v σ) ds h n) (FR Pr ⟨dst,op,ty,pos,af,g⟩) (dK op))
  (λjb=>Prod.rec (λj b=>Option.rec (λ_ _ _ _ _ _ _=>none) (λt=>λrun _ σ ds h n k=>on (T.get (aB t) σ)
   (V.onGuard (λc=>Bool.rec (k (ep dst aS σ) ds h n) (ye Pr op run σ h n λv h n=>k (ep dst v σ) ds h n) (Bool.rec (dP c) c b)) (k (ep dst aS σ) ds h n))) ((ops[j]?).bind (·.dst))) jb) g) o
def AQ (ops:Array Oper) (l:List Oper):fG->Option P->T V->List D->T Blk->P->KN β->Option β:=
 List.rec (λ_ _ σ ds h n k=>k σ ds h n) (λo _ ih run rd σ ds h n k=>Ip Pr ops o run rd σ ds h n λσ ds h n=>ih run rd σ ds h n k) l
def dJ (op:Op):Bool:=match op with
 | .move _ | .assign _ | .pick .. | .build .. | .load .. | .nilCheck _ | .binOp .. | .unOp .. | .makeInterface .. | .makeFunc .. | .slice .. | .fieldAddr .. | .field .. | .indexAddr .. | .index .. | .lookup .. | .entry _ | .extract ..=>true
 | .convert s d _=>match gL Pr s d with
  | .int _ | .flt | .str _=>true
  | _=>false
 | .call c=>match c.callee with
  | .builtin .len | .builtin .cap | .builtin .min | .builtin .max=>true
  | _=>false
 | _=>false
def dZ (op:Op):Bool:=match op with
 | .move _ | .assign _ | .pick .. | .build .. | .nilCheck _ | .binOp .. | .unOp .. | .makeInterface .. | .makeFunc .. | .fieldAddr .. | .field .. | .index .. | .extract ..=>true
 | _=>false
def qB (op:Op):Bool:=match op with
 | .alloc _ | .makeSlice .. | .makeMap _ none=>true
 | _=>false
def gU (op:Op) (σ:T V) (h:T Blk):Option V:=ye Pr op (λ_ _ _=>none) σ h .z λv _ _=>some v
def gP (op:Op) (σ:T V) (n:P):Option (Blk × V):=ye Pr op (λ_ _ _=>none) σ .e n λv h _=>on (T.get n h) λB=>some (B,v)
def sameV (v:V):V->Bool:=V.rec (motive_1:=λ_=>V->Bool) (motive_2:=λ_=>List V->Bool)
 (λk x u=>yes (V.onInt (λj y=>some (Bool.rec false (JH x y) (Nat.beq (aM k) (aM j)))) u)) (λa u=>yes (V.onBool (λb=>some (Bool.rec (dP b) b a)) u)) (λa u=>yes (V.onStr (λb=>some (zI a b)) u))
 (λu=>yes (eqD.onP (some true) none u)) (λb i j u=>yes (V.onPtr (λb' i' j'=>some (Bool.rec false (Bool.rec false (Nat.beq j j') (Nat.beq i i')) (P.beq b b'))) u)) (λu=>yes (V.onSl (some true) (λ_ _ _ _=>none) u))
 (λb i l c u=>yes (V.onSl none (λb' i' l' c'=>some (Bool.rec false (Bool.rec false (Bool.rec false (capEq c c') (Nat.beq l l')) (Nat.beq i i')) (P.beq b b'))) u))
 (λf _ _ iha ihb u=>yes (V.onFn (λg a b=>some (Bool.rec false (Bool.rec false (ihb b) (iha a)) (Nat.beq f g))) (λ_=>none) u)) (λl u=>yes (V.onFn (λ_ _ _=>none) (λl'=>some (P.beq l l')) u)) (λu=>yes (eqD.onF (some true) none u)) (λu=>yes (V.onMap (some true) (λ_=>none) u)) (λb u=>yes (V.onMap none (λb'=>some (P.beq b b')) u)) (λu=>yes (eqD.onI (some true) none u)) (λt _ ih u=>yes (V.onIface (λt' x=>some (Bool.rec false (ih x) (Nat.beq t t'))) u))
 (λ_ ih u=>yes (V.onAgg (λm=>some (ih m)) u)) (λ_ ih u=>yes (V.onTup (λm=>some (ih m)) u)) (λa u=>yes (V.onFlt (λb=>some (Nat.beq a b)) u))
 (λm=>List.rec true (λ_ _ _=>false) m) (λ_ _ ih ihl m=>List.rec false (λu r _=>Bool.rec false (ihl r) (ih u)) m) v
where
 yes (o:Option Bool):Bool:=Option.rec false (λb=>b) o
 capEq (c c':Option Nat):Bool:=Option.rec (Option.rec true (λ_=>false) c') (λa=>Option.rec false (λb=>Nat.beq a b) c') c
inductive PS where
 | q (i:Nat)
 | e (i:Nat) (chk:List Nat)
 | o (i:Nat)
 | f (i:Nat)
def mark (l:List Nat) (listed:Array Bool):Array Bool:=l.foldl (λa i=>a.setIfInBounds i true) listed
def tY (ops:Array Oper) (f:Op->Bool) (i:Nat):Bool:=match ops[i]? with
 | some o=>f o.op
 | none=>false
def vT (ops:Array Oper) (i:Nat):Bool:=match ops[i]? with
 | some ⟨some _,op,_,_,_,none⟩=>qB op
 | _=>false
def zK (ops:Array Oper):List PS->Array Bool->List Nat->List Nat->Bool
 | [],listed,opn,_=>opn.isEmpty && Region.ready .any ops listed == []
 | .q i::l,listed,opn,qs=>tY ops (dJ Pr) i && Region.free .any ops listed i && (Region.ready .any ops listed).contains i && zK ops l (listed.setIfInBounds i true) opn (if tY ops dZ i then qs else i::qs)
 | .e i chk::l,listed,opn,qs=>Region.ready .any ops (mark opn listed) == [i] && (Region.ready .any ops listed).contains i && (qs.all λj=>j == i || reach ops j 5 i || chk.contains j) && zK ops l (listed.setIfInBounds i true) opn qs
 | .o i::l,listed,opn,qs=>vT ops i && Region.free .any ops listed i && (Region.ready .any ops listed).contains i && !(opn.contains i) && zK ops l listed (opn++[i]) qs
 | .f i::l,listed,opn,qs=>opn.contains i && Region.ready .any ops (mark (opn.filter (· != i)) listed) == [i] && zK ops l (listed.setIfInBounds i true) (opn.filter (· != i)) qs
abbrev Rj:=Nat × (T Blk->Option V) × V
abbrev x9:=Nat × (P->Option (Blk × V))
def o5 (l:List Nat) (h:T Blk) (x:Option β) (cs:List Rj):Option β:=List.rec x (λc _ ih=>Prod.rec (λi qv=>Prod.rec (λq v=>Bool.rec ih (on (q h) λu=>Bool.rec none ih (sameV v u)) (qz i l)) qv) c) cs
def pF (ops:Array Oper) (o:Oper) (σ:T V) (yes no:Option β):Option β:=Oper.rec (λ_ _ _ _ _ g=>Option.rec yes (λjb=>Prod.rec (λj b=>Option.rec none (λt=>on (T.get (aB t) σ) (V.onGuard (λc=>Bool.rec no yes (Bool.rec (dP c) c b)) no)) ((ops[j]?).bind (·.dst))) jb) g) o
def rG (i:Nat) (pd:List x9) (f:(P->Option (Blk × V))->List x9->Option β):Option β:=List.rec (motive:=λ_=>(List x9->List x9)->Option β) (λ_=>none) (λp r ih back=>Prod.rec (λj mk=>Bool.rec (ih λm=>back (p::m)) (f mk (back r)) (Nat.beq j i)) p) pd λm=>m
abbrev SX (β:Type):=List Rj->List x9->fG->T V->List D->T Blk->P->KN β->Option β
def ek (ops:Array Oper) (l:List PS):SX β:=List.rec (λ_ pd _ σ ds h n k=>List.rec (k σ ds h n) (λ_ _ _=>none) pd)
 (λs _ ih=>PS.rec
  (λi=>Option.rec (λ_ _ _ _ _ _ _ _=>none) (λo=>λcs pd run σ ds h n k=>pF ops o σ (on (gU Pr o.op σ h) λv=>ih ((i,(λh=>gU Pr o.op σ h),v)::cs) pd run (ep o.dst v σ) ds h n k) (ih cs pd run (ep o.dst aS σ) ds h n k)) (ops[i]?))
  (λi chk=>Option.rec (λ_ _ _ _ _ _ _ _=>none) (λo=>λcs pd run σ ds h n k=>Bool.rec (pF ops o σ (ye Pr o.op run σ h n λv h n=>o5 chk h (ih cs pd run (ep o.dst v σ) ds h n k) cs) (ih cs pd run (ep o.dst aS σ) ds h n k)) none (dK o.op)) (ops[i]?))
  (λi=>Option.rec (λ_ _ _ _ _ _ _ _=>none) (λo=>λcs pd run σ ds h n k=>Option.rec none (λd=>on (T.get (aB d) σ) λ_=>on (gP Pr o.op σ n) λ_=>ih cs ((i,λn=>gP Pr o.op σ n)::pd) run (T.put none (aB d) σ) ds h n k) o.dst) (ops[i]?))
  (λi=>Option.rec (λ_ _ _ _ _ _ _ _=>none) (λo=>λcs pd run σ ds h n k=>Option.rec none (λd=>rG i pd λmk rest=>on (mk n) λBv=>ih cs rest run (T.put (some Bv.2) (aB d) σ) ds (T.put (some Bv.1) n h) (P.succ n) k) o.dst) (ops[i]?)) s) l
def br {γ:Type} (n:Nat) (k:Nat->γ):γ:=Nat.rec (k 0) (λm _=>k (Nat.succ m)) n
def gR (m i:Nat):Bool:=Bool.rec true false (Nat.beq (Nat.land m (Nat.shiftLeft 1 i)) 0)
def um (p m:Nat):Bool:=Nat.beq (Nat.land p m) p
def jR (a b:Nat):Bool:=Nat.beq (Nat.land a b) 0
def iY (l:List Nat):Nat:=List.rec 0 (λt _ ih=>Nat.lor (Nat.shiftLeft 1 t) ih) l
def iB (l:List Edge):Nat:=List.rec 0 (λe _ ih=>Bool.rec ih (Nat.lor (Nat.shiftLeft 1 e.on) ih) (Region.binds .any e)) l
def v8 (d:Option Nat):Nat:=Option.rec 0 (λd=>Nat.shiftLeft 1 d) d
inductive Rw where
 | mk (p a d:Nat) (q s f:Bool)
def wQ (o:Oper):Bool:=match o with
 | ⟨some _,op,_,_,_,none⟩=>qB op
 | _=>false
def HZ (ops:Array Oper) (o:Oper):Rw:=br (iB o.after.toList) λp=>br (iY (o.looksAt ops)) λa=>br (v8 o.dst) λd=>.mk p a d (dJ Pr o.op) (dZ o.op) (wQ o)
def dz (ops:Array Oper):List Rw:=List.rec [] (λo _ ih=>HZ Pr ops o::ih) ops.toList
def gW {γ:Type} (z:γ) (tab:List Rw) (i:Nat) (f:Nat->Nat->Nat->Bool->Bool->Bool->γ):γ:=Option.rec z (λr=>Rw.rec f r) (oN i tab)
def gu (tab:List Rw) (L i:Nat):Bool:=gW false tab i λp _ _ _ _ _=>Bool.rec (um p L) false (gR L i)
def gm (L i:Nat) (tab:List Rw):Nat->Bool:=List.rec (λ_=>true) (λr _ ih j=>Rw.rec (λp _ _ _ _ _=>Bool.rec (Bool.rec (ih (Nat.succ j)) (Bool.rec false (ih (Nat.succ j)) (Nat.beq j i)) (um p L)) (ih (Nat.succ j)) (gR L j)) r) tab
def l7 (L i a d:Nat) (tab:List Rw):Nat->Bool:=List.rec (λ_=>true) (λr _ ih j=>Rw.rec (λp' a' d' _ _ _=>Bool.rec (Bool.rec (Bool.rec (Bool.rec false (Bool.rec false (Bool.rec false (ih (Nat.succ j)) (jR d' a)) (jR d d')) (jR d a')) (ih (Nat.succ j)) (gR p' i)) (ih (Nat.succ j)) (gR L j)) (ih (Nat.succ j)) (Nat.beq j i)) r) tab
def uT (tab:List Rw) (L i:Nat):Bool:=gW false tab i λ_ a d _ _ _=>l7 L i a d tab 0
def mD (m:Nat) (tab:List Rw):Nat->Nat:=List.rec (λ_=>0) (λr _ ih j=>Bool.rec (ih (Nat.succ j)) (Rw.rec (λp _ _ _ _ _=>Nat.lor p (ih (Nat.succ j))) r) (gR m j)) tab
def Ef (tab:List Rw) (i k:Nat):Nat:=Nat.rec (gW 0 tab i λp _ _ _ _ _=>p) (λ_ ih=>br ih λm=>Nat.lor m (mD m tab 0)) k
def Mk (f:Nat->Bool) (l:List Nat):Bool:=List.rec true (λa _ ih=>Bool.rec false ih (f a)) l
def pU (i:Nat) (l:List Nat):List Nat:=l.filter (· != i)
def Ns (tab:List Rw) (l:List PS):Nat->List Nat->List Nat->Bool:=List.rec (λL opn _=>List.rec (Bool.rec false (gm L 1 tab 0) (gm L 0 tab 0)) (λ_ _ _=>false) opn)
 (λs _ ih L opn qs=>PS.rec
  (λi=>gW false tab i λ_ _ _ q st _=>Bool.rec false (Bool.rec false (Bool.rec false (br (Nat.lor L (Nat.shiftLeft 1 i)) λL'=>ih L' opn (Bool.rec (i::qs) qs st)) (gu tab L i)) (uT tab L i)) q)
  (λi chk=>br (Nat.lor L (iY opn)) λL1=>Bool.rec false (Bool.rec false (Bool.rec false (br (Ef tab i 5) λA=>Bool.rec false (br (Nat.lor L (Nat.shiftLeft 1 i)) λL'=>ih L' opn qs) (Mk (λj=>Bool.rec (Bool.rec (gR A j) true (qz j chk)) true (Nat.beq j i)) qs)) (gu tab L i)) (gu tab L1 i)) (gm L1 i tab 0))
  (λi=>gW false tab i λ_ _ _ _ _ f=>Bool.rec false (Bool.rec false (Bool.rec false (Bool.rec (ih L (opn++[i]) qs) false (qz i opn)) (gu tab L i)) (uT tab L i)) f)
  (λi=>br (Nat.lor L (iY (pU i opn))) λL1=>Bool.rec false (Bool.rec false (Bool.rec false (br (Nat.lor L (Nat.shiftLeft 1 i)) λL'=>ih L' (pU i opn) qs) (gu tab L1 i)) (gm L1 i tab 0)) (qz i opn)) s) l
def H8 (f:Nat->Rw->Bool) (tab:List Rw):Nat->Option Nat:=List.rec (λ_=>none) (λr _ ih j=>Bool.rec (ih (Nat.succ j)) (some j) (f j r)) tab
def SQ (L:Nat) (tab:List Rw):Nat->List Nat:=List.rec (λ_=>[]) (λr _ ih j=>Rw.rec (λp _ _ _ _ _=>Bool.rec (Bool.rec (ih (Nat.succ j)) (j::ih (Nat.succ j)) (um p L)) (ih (Nat.succ j)) (gR L j)) r) tab
def Q5 (tab:List Rw) (fuel:Nat):Nat->List Nat->List Nat->List PS:=Nat.rec (λ_ _ _=>[]) (λ_ ih L opn qs=>
 Option.rec (br (Nat.lor L (iY opn)) λL1=>List.rec (List.rec [] (λd r _=>.f d::br (Nat.lor L (Nat.shiftLeft 1 d)) λL'=>ih L' r qs) opn)
  (λi rest _=>List.rec (Bool.rec
   (Option.rec [] (λd=>.f d::br (Nat.lor L (Nat.shiftLeft 1 d)) λL'=>ih L' (pU d opn) qs) (gW none tab i λp _ _ _ _ _=>opn.find? λd=>gR p d))
   (.e i (br (Ef tab i 5) λA=>qs.filter λl=>dP (Bool.rec (gR A l) true (Nat.beq l i)))::br (Nat.lor L (Nat.shiftLeft 1 i)) λL'=>ih L' opn qs) (gu tab L i))
   (λ_ _ _=>Option.rec [] (λd=>.o d::ih L (opn++[d]) qs) ((i::rest).find? λd=>gW false tab d λ_ _ _ _ _ f=>Bool.rec false (Bool.rec false (uT tab L d) (gu tab L d)) f)) rest) (SQ L1 tab 0))
  (λi=>.q i::br (Nat.lor L (Nat.shiftLeft 1 i)) λL'=>ih L' opn (gW qs tab i λ_ _ _ _ st _=>Bool.rec (i::qs) qs st))
  (H8 (λj r=>Rw.rec (λp a d q _ _=>Bool.rec false (Bool.rec (Bool.rec false (l7 L j a d tab 0) (um p L)) false (gR L j)) q) r) tab 0)) fuel
def Nk (tab:List Rw) (fuel:Nat):Nat->List Nat->List PS:=Nat.rec (λ_ _=>[]) (λ_ ih L qs=>
 Option.rec (List.rec [] (λi _ _=>.e i (br (Ef tab i 5) λA=>qs.filter λl=>dP (Bool.rec (gR A l) true (Nat.beq l i)))::br (Nat.lor L (Nat.shiftLeft 1 i)) λL'=>ih L' qs) (SQ L tab 0))
  (λi=>.q i::br (Nat.lor L (Nat.shiftLeft 1 i)) λL'=>ih L' (gW qs tab i λ_ _ _ _ st _=>Bool.rec (i::qs) qs st))
  (H8 (λj r=>Row1 L j r) tab 0)) fuel
where Row1 (L j:Nat) (r:Rw):Bool:=Rw.rec (λp _ _ q _ _=>Bool.rec false (Bool.rec (um p L) false (gR L j)) q) r
def oU (ops:Array Oper):List PS:=Bool.rec (Q5 (dz Pr ops) (ops.size+ops.size+1) 0 [] []) (Nk (dz Pr ops) (ops.size+1) 0 []) (Ns (dz Pr ops) (Nk (dz Pr ops) (ops.size+1) 0 []) 0 [] [])
def wm (op:Op):Bool:=match op with
 | .select ..=>false
 | _=>true
def AY (l:List Oper):Bool:=List.rec true (λo _ ih=>Bool.rec false ih (wm o.op)) l
theorem EF (ops:Array Oper):AY ops.toList=Region.noSelect ops:=by
 have h:Region.noSelect ops=ops.all λo=>wm o.op:=by
  unfold Region.noSelect
  congr 1
 rw [h,← Array.all_toList]
 induction ops.toList with
 | nil=>rfl
 | cons o l ih=>
  rw [List.all_cons,← ih]
  show (Bool.rec false (AY l) (wm o.op):Bool)=_
  cases wm o.op <;> rfl
def nN (l:List PS):Nat:=match l with
 | []=>0
 | .f _::l=>nN l
 | _::l=>nN l+1
def CT (ops:Array Oper):Bool:=AY ops.toList && Nat.ble (nN (oU Pr ops)) ops.size && Ns (dz Pr ops) (oU Pr ops) 0 [] []
def Ir (ops:Array Oper) (draw:Bool):fG->Option P->T V->List D->T Blk->P->KN β->Option β:=
 Bool.rec (AQ Pr ops ops.toList) (Bool.rec (λ_ _ _ _ _ _ _=>none) (λrun rd σ ds h n k=>Option.rec (ek Pr ops (oU Pr ops) [] [] run σ ds h n k) (λ_=>none) rd) (CT Pr ops)) draw
def ME (ih:EX β) (run:fG) (rd:Option P) (kx:X->KN β) (j:Nat):KN β:=Nat.rec (motive:=λ_=>KN β) (λ_ _ _ _=>none) (λ_ again σ ds h n=>ih run rd σ ds h n again kx) j
def Di (ih:EX β):EX β:=λrun rd σ ds h n _ kx=>ME ih run rd kx 1000000 σ ds h n
def wP (id:Nat) (ih:EX β):EX β:=λrun rd σ ds h n kn kx=>ih run rd σ ds h n kn (λx=>X.rec (λi=>Bool.rec (kx (.exit i)) kn (Nat.beq i id)) (λl=>kx (.goto l)) (kx .ret) x)
def JD (again:EX β->KN β) (fr:Nat->Option (EX β)) (kx:X->KN β) (x:X):KN β:=X.rec (motive:=λ_=>KN β) (λi=>kx (.exit i)) (λl σ ds h n=>Option.rec (kx (.goto l) σ ds h n) (λg=>again g σ ds h n) (fr l)) (kx .ret) x
def GK (run:fG) (rd:Option P) (kn:KN β) (kx:X->KN β) (fr:Nat->Option (EX β)) (j:Nat):EX β->KN β:=
 Nat.rec (motive:=λ_=>EX β->KN β) (λ_ _ _ _ _=>none) (λ_ again g σ ds h n=>g run rd σ ds h n kn (JD again fr kx)) j
def wz (ih:EX β) (fr:Nat->Option (EX β)):EX β:=λrun rd σ ds h n kn kx=>GK run rd kn kx fr 100000 ih σ ds h n
def dG (f:FuncId):Option (Func × Code):=match Pr.funcs[f]? with
 | some fn=>match fn.body with
  | some c=>if fn.name= "runtime.NumGoroutine" then none else some (fn,c)
  | none=>none
 | none=>none
def rangeX (m:Nat) (g:Operand) (ps:List Nat) (asg body:Code):EX β:=λrun rd σ ds h n kn kx=>on (aJ g σ) λg=>
 let go (d:P) (ds:List D) (h:T Blk) (l:P):Option β:=V.onFn (λf a b=>on (dG Pr f) λ_=>on (run (.call f (fF a (.yield l::b))) (T.put (some (.loop .ready none σ m ps asg body d)) l h) (P.succ l)) λr=>Prod.rec (λ_ hn=>Prod.rec (λh n=>
  on (T.get l h) (Blk.onLoop λst pend σ' m' ps' a' b' d'=>notBusy st (Option.rec (kn σ ds (T.put (some (.loop .exhausted pend σ' m' ps' a' b' d')) l h) n) (λx=>kx x σ ds (T.put (some (.loop .exhausted pend σ' m' ps' a' b' d')) l h) n) pend))) hn) r) (λ_=>none) g
 Option.rec (go n (.mark n::ds) (T.put (some (.dfr true)) n h) (P.succ n)) (λl=>on (T.get l h) (Blk.onLoop λ_ _ _ _ _ _ _ d=>go d ds h n)) rd
where notBusy (st:LoopState) (x:Option β):Option β:=LoopState.rec x none x x st
def RA {β:Type} (x:Operand) (σ:T V) (f:Bool->Option β):Option β:=on (aJ x σ) (V.onBool f)
def yh (m:Nat) (c:Code):EX β × (Nat->Option (EX β)):=Code.rec (motive:=λ_=>EX β × (Nat->Option (EX β)))
 (λ_ _ σ ds h n kn _=>kn σ ds h n,λ_=>none)
 (λ_ ops draw=>(λrun rd σ ds h n kn _=>Ir Pr ops draw run rd σ ds h n kn,λ_=>none))
 (λ_ _ a b=>(λrun rd σ ds h n kn kx=>a.1 run rd σ ds h n (λσ ds h n=>b.1 run rd σ ds h n kn kx) kx,
  λl=>Option.rec (b.2 l) (λg=>some λrun rd σ ds h n kn kx=>g run rd σ ds h n (λσ ds h n=>b.1 run rd σ ds h n kn kx) kx) (a.2 l)))
 (λx _ _ a b=>(λrun rd σ ds h n kn kx=>RA x σ λt=>Bool.rec (b.1 run rd σ ds h n kn kx) (a.1 run rd σ ds h n kn kx) t,λ_=>none))
 (λid _ a=>(wP id a.1,λ_=>none))
 (λ_ a=>(Di a.1,λ_=>none))
 (λg ps asg body _ _=>(rangeX Pr m g ps.toList asg body,λ_=>none))
 (λid=>(λ_ _ σ ds h n _ kx=>kx (.exit id) σ ds h n,λ_=>none))
 (λ_ a=>(wz a.1 a.2,λ_=>none))
 (λl=>(λ_ _ σ ds h n kn _=>kn σ ds h n,λl'=>Bool.rec none (some λ_ _ σ ds h n kn _=>kn σ ds h n) (Nat.beq l l')))
 (λl=>(λ_ _ σ ds h n _ kx=>kx (.goto l) σ ds h n,λ_=>none))
 (λ_ _ σ ds h n _ kx=>kx .ret σ ds h n,λ_=>none)
 (λ_=>(λ_ _ _ _ _ _ _ _=>none,λ_=>none)) c
def uh (m:Nat) (c:Code):EX β:=(yh Pr m c).1
end
section
variable (Pr:Program)
def nI (l:List V):P->T V->T V:=List.rec (λ_ σ=>σ) (λv _ ih p σ=>ih (P.succ p) (T.set v p σ)) l
def AP (ts:List Nat):List V->T V->T V:=List.rec (λ_ σ=>σ) (λt _ ih l σ=>List.rec σ (λv r _=>ih r (T.set v (aB t) σ)) l) ts
def qy (rs:List ResultVar):T V->T Blk->Option (List V):=List.rec (λ_ _=>some []) (λr _ ih=>ResultVar.rec (λt σ h=>on (T.get (aB t) σ) λv=>on (ih σ h) λl=>some (v::l))
 (λa t=>Option.rec (λ_ _=>none) (λg σ h=>on (T.get (aB a) σ) λp=>on (l5 g p h) λv=>on (ih σ h) λl=>some (v::l)) (fV Pr t)) r) rs
def wB (l:List V):V:=List.rec (.tup l) (λv r _=>List.rec v (λ_ _ _=>.tup l) r) l
def wt (run:fG) (ds:List D):T Blk->P->(T Blk->P->Option jI)->Option jI:=List.rec (λh n k=>k h n) (λd _ ih h n k=>
 D.rec (λf as=>on (run (.dcall f as) h n) λr=>ih r.2.1 r.2.2 k) (λb=>on (T.get b h) (Blk.onDfr λlive=>Bool.rec none (ih (T.put (some (.dfr false)) b h) n k) live)) d) ds
def o9 (fn:Func) (run:fG):KN jI:=λσ ds h n=>wt run ds h n λh n=>on (qy Pr fn.results.toList σ h) λl=>some (wB l,h,n)
def leave0 (fn:Func):KN jI:=λσ ds h n=>List.rec (on (qy Pr fn.results.toList σ h) λl=>some (wB l,h,n)) (λ_ _ _=>none) ds
def QK (_:String) (_:List V) (_:T Blk) (_:P):Option jI:=none
def CE {β:Type} (k:KN β) (x:X):KN β:=X.rec (λ_ _ _ _ _=>none) (λ_ _ _ _ _=>none) k x
def kP {β:Type} [Jn β] (fn:Func) (c:Code) (k:fG->KN β):fG->List V->T Blk->P->Option β:=λrun as h n=>
 Bool.rec none (uh Pr fn.ntmps c run none (nI as .z (zh fn.ntmps)) [] h n (k run) (CE (k run))) (Nat.ble (bR as) fn.ntmps)
def nW (a:List (List V)):List (List V)->Bool:=List.rec (λb=>List.rec true (λ_ _ _=>false) b) (λr _ ih b=>List.rec false (λr' b' _=>Bool.rec false (ih b') (sameV (.tup r) (.tup r'))) b) a
def nZ (a:List iP):List iP->Bool:=List.rec (λb=>List.rec true (λ_ _ _=>false) b) (λe _ ih b=>List.rec false (λe' b' _=>Bool.rec false (Bool.rec false (Bool.rec false (ih b') (Nat.beq e.2.2 e'.2.2)) (sameV e.2.1 e'.2.1)) (sameV e.1 e'.1)) b) a
def Bg (a b:Option P):Bool:=Option.rec (Option.rec true (λ_=>false) b) (λp=>Option.rec false (λq=>P.beq p q) b) a
def wT (a b:Blk):Bool:=Blk.rec
 (λt k op rs=>Blk.rec (λt' k' op' rs'=>Bool.rec false (Bool.rec false (Bool.rec false (nW rs rs') (Bool.rec (dP op') op' op)) (Nat.beq k k')) (Nat.beq t t')) (λ_ _=>false) (λ_ _=>false) (λ_ _ _ _=>false) (λ_ _ _ _ _ _ _ _=>false) (λ_=>false) (λ_=>false) b)
 (λes c=>Blk.rec (λ_ _ _ _=>false) (λes' c'=>Bool.rec false (nZ es es') (Nat.beq c c')) (λ_ _=>false) (λ_ _ _ _=>false) (λ_ _ _ _ _ _ _ _=>false) (λ_=>false) (λ_=>false) b)
 (λl p=>Blk.rec (λ_ _ _ _=>false) (λ_ _=>false) (λl' p'=>Bool.rec false (zI l l') (Nat.beq p p')) (λ_ _ _ _=>false) (λ_ _ _ _ _ _ _ _=>false) (λ_=>false) (λ_=>false) b)
 (λm si se la=>Blk.rec (λ_ _ _ _=>false) (λ_ _=>false) (λ_ _=>false) (λm' si' se' la'=>Bool.rec false (Bool.rec false (Bool.rec false (zI se se') (Nat.beq la la')) (Nat.beq si si')) (Bg m m')) (λ_ _ _ _ _ _ _ _=>false) (λ_=>false) (λ_=>false) b)
 (λ_ _ _ _ _ _ _ _=>false)
 (λl=>Blk.rec (λ_ _ _ _=>false) (λ_ _=>false) (λ_ _=>false) (λ_ _ _ _=>false) (λ_ _ _ _ _ _ _ _=>false) (λl'=>Bool.rec (dP l') l' l) (λ_=>false) b)
 (λl=>Blk.rec (λ_ _ _ _=>false) (λ_ _=>false) (λ_ _=>false) (λ_ _ _ _=>false) (λ_ _ _ _ _ _ _ _=>false) (λ_=>false) (λl'=>zI l l') b) a
def yw (a:T Blk):T Blk->Bool:=T.rec (λ_=>true) (λv _ _ ihl ihr t=>T.rec (Bool.rec false (Bool.rec false (ihr .e) (ihl .e)) (Option.rec true (λ_=>false) v))
 (λv' l' r' _ _=>Bool.rec false (Bool.rec false (ihr r') (ihl l')) (Option.rec true (λB=>Option.rec false (λB'=>wT B B') v') v)) t) a
def Gx (a b:jI):Bool:=Bool.rec false (Bool.rec false (yw a.2.1 b.2.1) (P.beq a.2.2 b.2.2)) (sameV a.1 b.1)
def IK (h0:T Blk):T Blk->T Blk:=T.rec (λ_=>.e) (λv _ _ ihl ihr t=>T.rec .e (λv' l' r' _ _=>.n (Option.rec none (λ_=>Option.rec none (λB=>Blk.rec (λt k o rs=>some (.rows t k o rs)) (λes c=>some (.map es c)) (λl p=>some (.strIter l p)) (λm s e a=>some (.mapIter m s e a)) (λ_ _ _ _ _ _ _ _=>none) (λl=>some (.dfr l)) (λl=>some (.fz l)) B) v') v) (ihl l') (ihr r')) t) h0
def zn (v:V):List P->List P:=V.rec (motive_1:=λ_=>List P->List P) (motive_2:=λ_=>List P->List P)
 (λ_ _ a=>a) (λ_ a=>a) (λ_ a=>a) (λa=>a) (λb _ _ a=>b::a) (λa=>a) (λb _ _ _ a=>b::a) (λ_ _ _ iha ihb a=>iha (ihb a)) (λl a=>l::a) (λa=>a) (λa=>a) (λb a=>b::a) (λa=>a) (λ_ _ ih a=>ih a)
 (λ_ ih a=>ih a) (λ_ ih a=>ih a) (λ_ a=>a) (λa=>a) (λ_ _ ih ihl a=>ih (ihl a)) v
def Nl (B:Blk) (a:List P):List P:=Blk.rec (λ_ _ _ rs=>List.rec a (λr _ ih=>zn (.tup r) ih) rs) (λes _=>List.rec a (λe _ ih=>zn e.1 (zn e.2.1 ih)) es) (λ_ _=>a) (λ_ _ _ _=>a) (λ_ _ _ _ _ _ _ _=>a) (λ_=>a) (λ_=>a) B
def Nz (B:Blk):Option Blk:=Blk.rec (λt k o rs=>some (.rows t k o rs)) (λes c=>some (.map es c)) (λl p=>some (.strIter l p)) (λm s e a=>some (.mapIter m s e a)) (λ_ _ _ _ _ _ _ _=>none) (λl=>some (.dfr l)) (λl=>some (.fz l)) B
def GP (h:T Blk) (fuel:Nat):List P->T Blk->T Blk:=Nat.rec (λ_ t=>t) (λ_ ih l t=>List.rec t (λp r _=>Option.rec (Option.rec (ih r t) (λB=>ih (Nl B r) (T.put (some B) p t)) (on (T.get p h) Nz)) (λ_=>ih r t) (T.get p t)) l) fuel
def Oh (t:T Blk):List P->List P:=T.rec (λa=>a) (λv _ _ ihl ihr a=>Option.rec (ihl (ihr a)) (λB=>Nl B (ihl (ihr a))) v) t
def mO (b:Bool) (h0:T Blk) (r:jI):jI:=Bool.rec (r.1,GP r.2.1 100000 (zn r.1 []) (IK h0 r.2.1),r.2.2) (r.1,GP r.2.1 1000000 (Oh (IK h0 r.2.1) (zn r.1 [])) (IK h0 r.2.1),r.2.2) b
def Mv (fn:Func) (run:fG):KN Cand:=λσ ds h n=>on (o9 Pr fn run σ ds h n) λr=>some (.mk r)
def LZ (exp:jI) (fn:Func) (run:fG):KN Unit:=λσ ds h n=>on (o9 Pr fn run σ ds h n) λr=>Bool.rec none (some ()) (Gx exp r)
def xA (b:Bool) (f:FuncId) (run:fG) (as:List V) (h:T Blk) (n:P):Option jI:=Option.rec none (λfc=>on (kP Pr fc.1 fc.2 (Mv Pr fc.1) run as h n) λc=>Cand.rec (λr=>on (kP Pr fc.1 fc.2 (LZ Pr (mO b h r) fc.1) run as h n) λ_=>some (mO b h r)) c) (dG Pr f)
inductive Hk where
 | fn (g:List V->T Blk->P->Option jI)
 | nd (b:Bool)
 | dn (k:Nat)
 | pf (g:List V->T Blk->P->Option jI)
abbrev qg:=FuncId->Option Hk
def yJ (f:FuncId):fG->List V->T Blk->P->Option jI:=Option.rec (Option.rec (λ_ _ _ _=>none) (λfn _ as h n=>QK fn.name as h n) Pr.funcs[f]?) (λfc=>kP Pr fc.1 fc.2 (o9 Pr fc.1)) (dG Pr f)
def GD (hk:qg) (f:FuncId):fG->List V->T Blk->P->Option jI:=Option.rec (yJ Pr f) (λx=>Hk.rec (λg _ as h n=>g as h n) (λb=>xA Pr b f) (λ_ _ _ _ _=>none) (λg run as h n=>Option.rec (yJ Pr f run as h n) some (g as h n)) x) (hk f)
def pA (f:FuncId):fG->List V->T Blk->P->Option jI:=Option.rec (λ_ _ _ _=>none) (λfc=>kP Pr fc.1 fc.2 (λ_=>leave0 Pr fc.1)) (dG Pr f)
def QC (k:Nat):fG->List V->T Blk->P->Option jI:=λ_ as h n=>Bool.rec none (some (.tup [],h,n)) (Nat.beq (bR as) k)
def Ap (hk:qg) (f:FuncId):fG->List V->T Blk->P->Option jI:=Option.rec (pA Pr f) (λx=>Hk.rec (λ_=>pA Pr f) (λ_=>pA Pr f) QC (λ_=>pA Pr f) x) (hk f)
def nR (l:P) (j:Option X) (h:T Blk) (n:P):Option jI:=on (T.get l h) (Blk.onLoop λ_ _ σ m ps a b d=>
 some (.bool (Option.rec true (λ_=>false) j),T.put (some (.loop (Option.rec .ready (λ_=>.done) j) j σ m ps a b d)) l h,n))
def Bn (run:fG) (l:P) (as:List V) (h:T Blk) (n:P):Option jI:=on (T.get l h) (Blk.onLoop λ_ _ σ m ps asg body _=>Bool.rec none
 (uh Pr m asg run (some l) (AP ps as σ) [] h n (λσ ds h n=>on (T.get l h) (Blk.onLoop λst pend σ0 m0 ps0 a0 b0 d0=>LoopState.rec
  (uh Pr m body run (some l) σ ds (T.put (some (.loop .busy pend σ0 m0 ps0 a0 b0 d0)) l h) n (λ_ _ h n=>nR l none h n) (λx _ _ h n=>nR l (some x) h n)) none none none st)) (λ_ _ _ _ _=>none)) (Nat.beq (bR as) (bR ps)))
def ul (hk:qg) (d:Nat):fG:=Nat.rec (motive:=λ_=>fG) (λ_ _ _=>none) (λ_ ih t=>Task.rec (λf as=>GD Pr hk f ih as) (λf as=>Ap Pr hk f ih as) (λl as=>Bn Pr ih l as) t) d
end
end
end Go.Lk
namespace Go.Lk
open Go.Eng Go.RowKit
noncomputable section
abbrev BF:=List V->T Blk->P->Option jI
def yN (a b:Int):BF:=λas h n=>List.rec none (λp r _=>List.rec (V.onPtr (λl i j=>on (lw l i j h) (V.onInt λk x=>Bool.rec none (Bool.rec none (on (jh [.int .i32 b] l i j h) λh'=>some (.tup [],h',n)) (JH x a)) (Nat.beq (aM k) 2))) p) (λ_ _ _=>none) r) as
def mH (tB:Nat):BF:=λas h n=>List.rec none (λp r _=>List.rec (V.onPtr (λl i j=>Bool.rec none (Bool.rec none (on (T.get l h) (Blk.onRows λt k op rs=>Bool.rec none (Bool.rec none (Bool.rec (Bool.rec none (on (lw l 0 0 h) λq=>on (eqD.onP (some true) (some false) q) λe=>
 Bool.rec (V.onPtr (λl' i' j'=>Bool.rec none (Bool.rec none (Bool.rec none (some (.tup [],h,n)) (Nat.beq j' 0)) (Nat.beq i' 0)) (P.beq l l')) q) (on (jh [p] l 0 0 h) λh'=>some (.tup [],h',n)) e) (Nat.beq (bR rs) 1)) none op) (Nat.beq k 2)) (Nat.beq t tB))) (Nat.beq j 0)) (Nat.beq i 0)) p) (λ_ _ _=>none) r) as
def zU (tE:Nat):BF:=λas h n=>List.rec none (λp r _=>List.rec (V.onPtr (λl i j=>on (lw l i (Nat.succ j) h) (V.onSl (some (.str [],h,n)) λb o len _=>Bool.rec none (Bool.rec none (on (T.get b h) (Blk.onRows λt k _ rs=>Bool.rec none (Bool.rec none (on (bY len (dB o rs)) λm=>on (gC m) λx=>some (.str x,T.put none b h,n)) (Nat.beq k 1)) (Nat.beq t tE))) (Nat.ble len 1000000)) (Nat.blt 0 len))) p) (λ_ _ _=>none) r) as
def Bj (m:Nat):BF:=λas h n=>List.rec none (λp r _=>List.rec (V.onSl (some (.agg (ur (.int .i64 0) m),h,n)) (λb o len _=>Bool.rec none (on (T.get b h) (Blk.onRows λ_ k _ rs=>Bool.rec none (on (bY len (dB o rs)) λl=>Bool.rec none (some (.agg (fF (oz l) (ur (.int .i64 0) (Nat.sub m len))),h,n)) (qe (oz l))) (Nat.beq k 1))) (Nat.ble len m)) p) (λ_ _ _=>none) r) as
def rF (a b:List Nat):Int:=Bool.rec (Bool.rec (.ofNat 1) (.ofNat 0) (zI a b)) (.negSucc 0) (JG a b)
def NI:BF:=λas h n=>List.rec none (λp r _=>List.rec none (λq r' _=>List.rec (V.onStr (λa=>V.onStr (λb=>some (.int .i64 (rF a b),h,n)) q) p) (λ_ _ _=>none) r') r) as
def nV (l:List (Nat × Hk)) (f:FuncId):Option Hk:=List.rec none (λx _ ih=>Bool.rec ih (some x.2) (Nat.beq x.1 f)) l
end
end Go.Lk
