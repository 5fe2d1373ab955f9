/- A lean reckoner for closed runs: regions that draw their order, the order's law. Over any program. -/
import Derived.Test.YtljfgmedbjlkaaaGreatV2s
import Derived.OrdersIn
import Derived.OrdersHeld
import Derived.Test.YtljfgmedbjlkaaaGreatLkA
import Derived.DeepKeys3
namespace Go.Lk
open Go.Eng Go.RowKit
section
variable {P:Program} {ops:Array Oper} {Q:Exit→Act→World→Prop} {S:World→Prop}
abbrev opW (P:Program) (ops:Array Oper) (Q:Exit→Act→World→Prop) (i:Nat) (K:Act→World→Prop) (a:Act) (w:World):Prop:=wpOpIn Fence.wide 0 P ops Q i K a w
theorem yields_op {i:Nat} {o:Oper} {v:Value} {a:Act} (hi:ops[i]?=some o) (hy:YieldsIf P ops S o v a) {K:Act→World→Prop} {w:World} (hS:S w) (h:K (a.put o.dst v) w):opW P ops Q i K a w:=by
 unfold opW wpOpIn
 simp only [hi]
 rcases hy with ⟨hw,hv⟩ | ⟨hw,rfl⟩
 ·simp only [hw,if_true,Oper.wpIn]
  refine ⟨fun _ _=>trivial,?_⟩
  rw [show Oper.semAt Fence.wide.round a.eval o=execOp a.eval o from Oper.semAt_none _ _,hv w hS]
  exact h
 ·simp only [hw,Bool.false_eq_true,if_false];exact ⟨fun _ _=>trivial,h⟩
theorem op_putIf {j:Nat} {oi oj:Oper} {v:Value} (hj:ops[j]?=some oj) (hap:oi.apart ops oj=true)
  (hsi:∀ cs b,oi.op≠.select cs b) (hsj:∀ cs b,oj.op≠.select cs b)
  (hQ:∀ c a w,Q (.panic c) (a.put oi.dst v) w→Q (.panic c) a w) {K:Act→World→Prop} {a:Act} {w:World}
  (hy:YieldsIf P ops S oi v a) (h:opW P ops Q j K (a.put oi.dst v) w) :
  opW P ops Q j (fun a' w'=>YieldsIf P ops S oi v a'∧K (a'.put oi.dst v) w') a w:=by
 obtain ⟨h1,h2,h3⟩:=Oper.apart_spec hap
 have keep:∀ (a:Act),YieldsIf P ops S oi v a→∀ u,YieldsIf P ops S oi v (a.put oj.dst u):=fun a hy u=>
  hy.of_same (execOp_put oi hsi a oj.dst u h3) (wanted_put oi a oj.dst u h3)
 have keepD:∀ d,YieldsIf P ops S oi v { a with defers:=d::a.defers }:=fun d=>hy.of_same rfl rfl
 have hro:Fence.wide.round=none:=rfl
 unfold opW wpOpIn at *
 simp only [hj] at *
 rw [wanted_put oj a oi.dst v h1] at h
 split
 ·rename_i hw
  simp only [hw,if_true] at h
  unfold Oper.wpIn at *
  refine ⟨fun _ _=>trivial,?_⟩
  have h:=h.2
  rw [hro,Oper.semAt_none,execOp_put oj hsj a oi.dst v h1] at h
  rw [hro,Oper.semAt_none]
  generalize (execOp a.eval oj).run P w=r at *
  cases r with
  | ok x w'=>
   cases x <;> simp only [Oper.uponIn] at h ⊢
   case value u=>exact ⟨keep a hy u,by rw [← Act.put_comm a v u h2];exact h⟩
   case skip=>exact ⟨keep a hy _,by rw [← Act.put_comm a v undef h2];exact h⟩
   case defer d=>
    refine ⟨keep _ (keepD d) _,?_⟩
    rw [← Act.put_comm _ v undef h2,← Act.put_defers]
    exact h
   case enter f args=>
    refine ⟨h.1,CallsIn.mono h.2 fun e w'' he=>?_⟩
    cases e with
    | returned u=>exact ⟨keep a hy u,by rw [← Act.put_comm a v u h2];exact he⟩
    | panicked c=>exact hQ _ _ _ he
    | outgrown=>exact he
   case row row args=>exact ⟨h.1,RowsIn.mono h.2 fun u w'' he=>⟨keep a hy u,by rw [← Act.put_comm a v u h2];exact he⟩⟩
   case round l f tmps assign body=>
    refine ⟨h.1,RoundIn.mono h.2 fun e w'' he=>?_⟩
    cases e with
    | returned u=>exact ⟨keep a hy u,by rw [← Act.put_comm a v u h2];exact he⟩
    | panicked c=>exact hQ _ _ _ he
    | outgrown=>exact he
  | halt x w'=>
   cases x <;> simp only [Oper.uponIn] at h ⊢
   case panic u=>exact hQ _ _ _ h
 ·rename_i hw
  simp only [hw] at h
  exact ⟨fun _ _=>trivial,keep a hy _,by rw [← Act.put_comm a v undef h2];exact h.2⟩
def anyM (P:Program) (ops:Array Oper) (Q:Exit→Act→World→Prop) (Po:Nat→World→World→Prop):Nat→Array Bool→Act→World→Prop
 | 0,listed,a,w=>Region.ready .any ops listed=[]∧Q .normal a w
 | fuel+1,listed,a,w=>
  (Region.ready .any ops listed=[]→Q .normal a w)∧
  ∀ i ∈ Region.ready .any ops listed,opW P ops Q i (fun a' w'=>Po i w w'∧anyM P ops Q Po fuel (listed.setIfInBounds i true) a' w') a w
theorem anyM_mono {Po Po':Nat→World→World→Prop} (hpo:∀ i w w',Po i w w'→Po' i w w'):∀ (fuel:Nat) (listed:Array Bool) (a:Act) (w:World),anyM P ops Q Po fuel listed a w→anyM P ops Q Po' fuel listed a w
 | 0,_,_,_,h=>h
 | fuel+1,_,_,_,h=>⟨h.1,fun i hi=>wpOpIn_mono (fun a' w' h'=>⟨hpo _ _ _ h'.1,anyM_mono hpo fuel _ a' w' h'.2⟩) (h.2 i hi)⟩
theorem any_of_M {Po:Nat→World→World→Prop}:∀ (fuel:Nat) (listed:Array Bool) (a:Act) (w:World),anyM P ops Q Po fuel listed a w→wpAnyIn Fence.wide 0 P .any ops Q fuel listed a w
 | 0,_,_,_,h=>h
 | fuel+1,_,_,_,h=>⟨h.1,fun i hi=>wpOpIn_mono (fun a' w' h'=>any_of_M fuel _ a' w' h'.2) (h.2 i hi)⟩
theorem anyM_first {Po:Nat→World→World→Prop} {i:Nat} {oi:Oper} {v:Value} (hi:ops[i]?=some oi) (hsel:∀ (j:Nat) (o:Oper) cs b,ops[j]?=some o→o.op≠.select cs b)
  (hQ:∀ c a w,Q (.panic c) (a.put oi.dst v) w→Q (.panic c) a w)
  (hS:∀ j,j≠i→reach ops i 5 j=false→∀ w w',S w→Po j w w'→S w') (hPo:∀ w,Po i w w) :
  ∀ (fuel:Nat) (listed:Array Bool) (a:Act) (w:World),Closed ops listed→
   (∀ j oj,ops[j]?=some oj→j≠i→listed.getD j true=false→(∀ e ∈ oj.after,Region.binds .any e=true→e.on≠i)→oi.apart ops oj=true)→
   i ∈ Region.ready .any ops listed→YieldsIf P ops S oi v a→S w→
   anyM P ops Q Po fuel (listed.setIfInBounds i true) (a.put oi.dst v) w→anyM P ops Q Po (fuel+1) listed a w:=by
 intro fuel
 induction fuel with
 | zero=>
  intro listed a w _ _ hr hy hSw H
  refine ⟨fun h=>(by rw [h] at hr;cases hr),fun j hj=>?_⟩
  by_cases hji:j=i
  ·subst hji;exact yields_op hi hy hSw ⟨hPo w,H⟩
  ·have:=ready_mono hj hji
   rw [H.1] at this
   cases this
 | succ fuel ih=>
  intro listed a w hcl hfree hr hy hSw H
  refine ⟨fun h=>(by rw [h] at hr;cases hr),fun j hj=>?_⟩
  by_cases hji:j=i
  ·subst hji;exact yields_op hi hy hSw ⟨hPo w,H⟩
  ·have h1:=H.2 j (ready_mono hj hji)
   obtain ⟨hjun,oj,hoj,hall⟩:=mem_ready.1 hj
   have hiun:listed.getD i false=true→False:=fun h1=>by
    have h0:=(mem_ready.1 hr).1
    rcases Nat.lt_or_ge i listed.size with h' | h'
    ·simp [h'] at h0 h1;rw [h0] at h1;cases h1
    ·simp [Array.getElem?_eq_none h'] at h1
   have hnot:∀ e ∈ oj.after,Region.binds .any e=true→e.on≠i:=fun e he hb heq=>hiun (heq▸hall e he hb)
   have hrn:reach ops i 5 j=false:=by
    cases hb:reach ops i 5 j
    ·rfl
    ·exact absurd (reach_listed hcl 5 j oj hoj hall hb) (fun h=>hiun h)
   have h2:=op_putIf hoj (hfree j oj hoj hji hjun hnot) (fun cs b=>hsel i oi cs b hi) (fun cs b=>hsel j oj cs b hoj) hQ hy h1
   have hfree':∀ k ok,ops[k]?=some ok→k≠i→(listed.setIfInBounds j true).getD k true=false→
     (∀ e ∈ ok.after,Region.binds .any e=true→e.on≠i)→oi.apart ops ok=true:=fun k ok hk hki hun hno=>by
    refine hfree k ok hk hki ?_ hno
    by_cases hjk:j=k
    ·subst hjk;exact hjun
    ·rw [getD_set_ne true hjk] at hun;exact hun
   refine wpOpIn_mono (fun a' w' h3=>⟨h3.2.1,?_⟩) h2
   refine ih (listed.setIfInBounds j true) a' w' (hcl.set hj) hfree' (ready_mono hr (Ne.symm hji)) h3.1 (hS j hji hrn w w' hSw h3.2.1) ?_
   rw [Array.setIfInBounds_comm _ _ hji]
   exact h3.2.2
def keeps (ops:Array Oper) (Ss:List (Nat × (World→Prop))) (j:Nat) (w w':World):Prop:=∀ x ∈ Ss,x.1≠j→reach ops x.1 5 j=false→x.2 w→x.2 w'
end
end Go.Lk
namespace Go.Lk
open Go.Eng Go.RowKit
noncomputable section
/-! ### Slots, operands -/
section on
variable {β:Type}
def V.onInt (f:IntKind→Int→Option β) (v:V):Option β:=V.rec (motive_1:=fun _=>Option β) (motive_2:=fun _=>PUnit)
 (fun k x=>f k x) (fun _=>none) (fun _=>none) none (fun _ _ _=>none) none (fun _ _ _ _=>none) (fun _ _ _ _ _=>none) (fun _=>none) none none (fun _=>none) none (fun _ _ _=>none) (fun _ _=>none) (fun _ _=>none) (fun _=>none) ⟨⟩ (fun _ _ _ _=>⟨⟩) v
def V.onBool (f:Bool→Option β) (v:V):Option β:=V.rec (motive_1:=fun _=>Option β) (motive_2:=fun _=>PUnit)
 (fun _ _=>none) (fun b=>f b) (fun _=>none) none (fun _ _ _=>none) none (fun _ _ _ _=>none) (fun _ _ _ _ _=>none) (fun _=>none) none none (fun _=>none) none (fun _ _ _=>none) (fun _ _=>none) (fun _ _=>none) (fun _=>none) ⟨⟩ (fun _ _ _ _=>⟨⟩) v
def V.onGuard (f:Bool→Option β) (g:Option β) (v:V):Option β:=V.rec (motive_1:=fun _=>Option β) (motive_2:=fun _=>PUnit)
 (fun _ _=>none) (fun b=>f b) (fun _=>none) none (fun _ _ _=>none) none (fun _ _ _ _=>none) (fun _ _ _ _ _=>none) (fun _=>none) none none (fun _=>none) none (fun _ _ _=>none) (fun _ _=>none) (fun _ _=>g) (fun _=>none) ⟨⟩ (fun _ _ _ _=>⟨⟩) v
def V.onStr (f:List Nat→Option β) (v:V):Option β:=V.rec (motive_1:=fun _=>Option β) (motive_2:=fun _=>PUnit)
 (fun _ _=>none) (fun _=>none) (fun l=>f l) none (fun _ _ _=>none) none (fun _ _ _ _=>none) (fun _ _ _ _ _=>none) (fun _=>none) none none (fun _=>none) none (fun _ _ _=>none) (fun _ _=>none) (fun _ _=>none) (fun _=>none) ⟨⟩ (fun _ _ _ _=>⟨⟩) v
def V.onPtr (f:P→Nat→Nat→Option β) (v:V):Option β:=V.rec (motive_1:=fun _=>Option β) (motive_2:=fun _=>PUnit)
 (fun _ _=>none) (fun _=>none) (fun _=>none) none (fun b i j=>f b i j) none (fun _ _ _ _=>none) (fun _ _ _ _ _=>none) (fun _=>none) none none (fun _=>none) none (fun _ _ _=>none) (fun _ _=>none) (fun _ _=>none) (fun _=>none) ⟨⟩ (fun _ _ _ _=>⟨⟩) v
def V.onSl (g:Option β) (f:P→Nat→Nat→Option Nat→Option β) (v:V):Option β:=V.rec (motive_1:=fun _=>Option β) (motive_2:=fun _=>PUnit)
 (fun _ _=>none) (fun _=>none) (fun _=>none) none (fun _ _ _=>none) g (fun b i l c=>f b i l c) (fun _ _ _ _ _=>none) (fun _=>none) none none (fun _=>none) none (fun _ _ _=>none) (fun _ _=>none) (fun _ _=>none) (fun _=>none) ⟨⟩ (fun _ _ _ _=>⟨⟩) v
def V.onFn (f:FuncId→List V→List V→Option β) (g:P→Option β) (v:V):Option β:=V.rec (motive_1:=fun _=>Option β) (motive_2:=fun _=>PUnit)
 (fun _ _=>none) (fun _=>none) (fun _=>none) none (fun _ _ _=>none) none (fun _ _ _ _=>none) (fun h a b _ _=>f h a b) (fun l=>g l) none none (fun _=>none) none (fun _ _ _=>none) (fun _ _=>none) (fun _ _=>none) (fun _=>none) ⟨⟩ (fun _ _ _ _=>⟨⟩) v
def V.onMap (g:Option β) (f:P→Option β) (v:V):Option β:=V.rec (motive_1:=fun _=>Option β) (motive_2:=fun _=>PUnit)
 (fun _ _=>none) (fun _=>none) (fun _=>none) none (fun _ _ _=>none) none (fun _ _ _ _=>none) (fun _ _ _ _ _=>none) (fun _=>none) none g (fun b=>f b) none (fun _ _ _=>none) (fun _ _=>none) (fun _ _=>none) (fun _=>none) ⟨⟩ (fun _ _ _ _=>⟨⟩) v
def V.onAgg (f:List V→Option β) (v:V):Option β:=V.rec (motive_1:=fun _=>Option β) (motive_2:=fun _=>PUnit)
 (fun _ _=>none) (fun _=>none) (fun _=>none) none (fun _ _ _=>none) none (fun _ _ _ _=>none) (fun _ _ _ _ _=>none) (fun _=>none) none none (fun _=>none) none (fun _ _ _=>none) (fun l _=>f l) (fun _ _=>none) (fun _=>none) ⟨⟩ (fun _ _ _ _=>⟨⟩) v
def V.onTup (f:List V→Option β) (v:V):Option β:=V.rec (motive_1:=fun _=>Option β) (motive_2:=fun _=>PUnit)
 (fun _ _=>none) (fun _=>none) (fun _=>none) none (fun _ _ _=>none) none (fun _ _ _ _=>none) (fun _ _ _ _ _=>none) (fun _=>none) none none (fun _=>none) none (fun _ _ _=>none) (fun _ _=>none) (fun l _=>f l) (fun _=>none) ⟨⟩ (fun _ _ _ _=>⟨⟩) v
def V.onCells (f:List V→Option β) (v:V):Option β:=V.rec (motive_1:=fun _=>Option β) (motive_2:=fun _=>PUnit)
 (fun k x=>f [.int k x]) (fun b=>f [.bool b]) (fun l=>f [.str l]) (f [.pnil]) (fun b i j=>f [.ptr b i j]) (f [.snil]) (fun b i l c=>f [.sl b i l c]) (fun g a b _ _=>f [.fn g a b]) (fun l=>f [.yield l]) (f [.fnil]) (f [.mnil]) (fun b=>f [.map b]) (f [.inil]) (fun t x _=>f [.iface t x]) (fun l _=>f l) (fun _ _=>none) (fun n=>f [.flt n]) ⟨⟩ (fun _ _ _ _=>⟨⟩) v
def V.onFlt (f:Nat→Option β) (v:V):Option β:=V.rec (motive_1:=fun _=>Option β) (motive_2:=fun _=>PUnit)
 (fun _ _=>none) (fun _=>none) (fun _=>none) none (fun _ _ _=>none) none (fun _ _ _ _=>none) (fun _ _ _ _ _=>none) (fun _=>none) none none (fun _=>none) none (fun _ _ _=>none) (fun _ _=>none) (fun _ _=>none) (fun n=>f n) ⟨⟩ (fun _ _ _ _=>⟨⟩) v
def on {α:Type} (x:Option α) (f:α→Option β):Option β:=Option.rec none f x
end on
def onNat {β:Type} (f:Nat→Option β) (v:V):Option β:=V.onInt (fun _ x=>Int.rec f (fun _=>none) x) v
mutual
def ofVal:Nat→Value→Option V
 | 0,_=>none
 | f+1,v=>match v with
  | .int k x=>some (.int k x)
  | .bool b=>some (.bool b)
  | .string s=>some (.str (bytesOf s))
  | .pointer none=>some .pnil
  | .slice none 0 0=>some .snil
  | .map none=>some .mnil
  | .nilFunc=>some .fnil
  | .nilIface=>some .inil
  | .float .f64 n=>some (.flt n)
  | .func (.func g) a b=>match ofVals f a.toList,ofVals f b.toList with
   | some x,some y=>some (.fn g x y)
   | _,_=>none
  | .agg cs=>match ofVals f cs.toList with
   | some l=>some (.agg l)
   | none=>none
  | .tuple cs=>match ofVals f cs.toList with
   | some l=>some (.tup l)
   | none=>none
  | .iface t x=>match ofVal f x with
   | some y=>some (.iface t y)
   | none=>none
  | _=>none
def ofVals:Nat→List Value→Option (List V)
 | 0,_=>none
 | _+1,[]=>some []
 | f+1,v::l=>match ofVal f v,ofVals f l with
  | some x,some y=>some (x::y)
  | _,_=>none
end
def evO (x:Operand):T V→Option V:=Operand.rec (fun t=>T.get (pathOf t)) (fun v _=>ofVal 40 v) (fun _ _=>none) (fun f _=>some (.fn f [] [])) x
def evOs (l:List Operand):T V→Option (List V):=List.rec (fun _=>some []) (fun x _ ih σ=>on (evO x σ) fun v=>on (ih σ) fun m=>some (v::m)) l
def undefV:V:=.tup []
def initT (m:Nat):T V:=Nat.rec .e (fun i ih=>T.put (some undefV) (pathOf i) ih) m
/-! ### Types, looked up ahead -/
def aggT (Pr:Program) (t:TypeId):Option (Option Nat):=match Pr.underlying t with
 | some (.struct _) | some (.array _ _)=>(Pr.info? t).map fun i=>some i.size
 | some _=>some none
 | none=>none
def szT (Pr:Program) (t:TypeId):Option Nat:=(Pr.info? t).map (·.size)
def zeroT (Pr:Program) (t:TypeId):Option V:=((Pr.info? t).bind (·.zero)).bind (ofVal 600)
def zcT (Pr:Program) (t:TypeId):Option (List V):=on (zeroT Pr t) (V.onCells some)
def fieldT (Pr:Program) (s:TypeId) (f:Nat):Option Field:=match Pr.underlying s with
 | some (.struct fs)=>fs[f]?
 | _=>none
def elemT (Pr:Program) (t:TypeId):Option TypeId:=match Pr.underlying t with
 | some (.slice e)=>some e
 | _=>none
def arrT (Pr:Program) (t:TypeId):Option (Nat × TypeId):=match Pr.underlying t with
 | some (.array n e)=>some (n,e)
 | _=>none
/-! ### Lists -/
section
variable {α β:Type}
def appL (l m:List α):List α:=List.rec m (fun v _ ih=>v::ih) l
def lenL (l:List α):Nat:=List.rec 0 (fun _ _ ih=>Nat.succ ih) l
def mapL (f:α→β) (l:List α):List β:=List.rec [] (fun v _ ih=>f v::ih) l
def repL (v:α) (n:Nat):List α:=Nat.rec [] (fun _ ih=>v::ih) n
def flatL (l:List (List α)):List α:=List.rec [] (fun v _ ih=>appL v ih) l
def rowsL (k:Nat) (n:Nat):List α→Option (List (List α)):=Nat.rec (fun _=>some []) (fun _ ih l=>on (takeL k l) fun r=>on (ih (dropL k l)) fun m=>some (r::m)) n
end
def eqL (a:List Nat):List Nat→Bool:=List.rec (fun b=>List.rec true (fun _ _ _=>false) b) (fun x _ ih b=>List.rec false (fun y m _=>Bool.rec false (ih m) (Nat.beq x y)) b) a
def ltL (a:List Nat):List Nat→Bool:=List.rec (fun b=>List.rec false (fun _ _ _=>true) b) (fun x _ ih b=>List.rec false (fun y m _=>Bool.rec (Bool.rec false (ih m) (Nat.beq x y)) true (Nat.blt x y)) b) a
def bnot (b:Bool):Bool:=Bool.rec true false b
def bor (a b:Bool):Bool:=Bool.rec b true a
/-! ### Numbers, texts -/
def kindN (k:IntKind):Nat:=IntKind.rec 0 1 2 3 4 5 6 7 k
def subI (k:IntKind) (x y:Int):Int:=Int.rec (fun a=>Int.rec (fun b=>Bool.rec (k.wrap (x-y)) (Int.ofNat (Nat.sub a b)) (Bool.rec false (Nat.ble a 127) (Nat.ble b a))) (fun _=>k.wrap (x-y)) y) (fun _=>k.wrap (x-y)) x
def int2 (f:IntKind→Int→Int→V) (v u:V):Option V:=V.onInt (fun k x=>V.onInt (fun j y=>Bool.rec none (some (f k x y)) (Nat.beq (kindN k) (kindN j))) u) v
def divV (f:IntKind→Int→Int→V) (v u:V):Option V:=V.onInt (fun k x=>V.onInt (fun j y=>Bool.rec none (Bool.rec (some (f k x y)) none (eqI y 0)) (Nat.beq (kindN k) (kindN j))) u) v
def shV (f:IntKind→Int→Int→V) (v u:V):Option V:=V.onInt (fun k x=>V.onInt (fun _ y=>Bool.rec (some (f k x y)) none (ltI y 0)) u) v
def ord2 (fi:Int→Int→Bool) (fs:List Nat→List Nat→Bool) (ff:Option Ordering→Bool) (v u:V):Option V:=V.rec (motive_1:=fun _=>V→Option V) (motive_2:=fun _=>PUnit)
 (fun k x=>V.onInt (fun j y=>Bool.rec none (some (.bool (fi x y))) (Nat.beq (kindN k) (kindN j)))) (fun _ _=>none) (fun a=>V.onStr (fun b=>some (.bool (fs a b)))) (fun _=>none) (fun _ _ _ _=>none) (fun _=>none) (fun _ _ _ _ _=>none) (fun _ _ _ _ _ _=>none) (fun _ _=>none) (fun _=>none) (fun _=>none) (fun _ _=>none) (fun _=>none) (fun _ _ _ _=>none) (fun _ _ _=>none) (fun _ _ _=>none) (fun a=>V.onFlt (fun b=>some (.bool (ff (Flt.D.order a b))))) ⟨⟩ (fun _ _ _ _=>⟨⟩) v u
def addV (v u:V):Option V:=V.rec (motive_1:=fun _=>V→Option V) (motive_2:=fun _=>PUnit)
 (fun k x=>V.onInt (fun j y=>Bool.rec none (some (.int k (addI k x y))) (Nat.beq (kindN k) (kindN j)))) (fun _ _=>none) (fun a=>V.onStr (fun b=>Bool.rec none (some (.str (appL a b))) (Nat.ble (Nat.add (lenL a) (lenL b)) 1000000))) (fun _=>none) (fun _ _ _ _=>none) (fun _=>none) (fun _ _ _ _ _=>none) (fun _ _ _ _ _ _=>none) (fun _ _=>none) (fun _=>none) (fun _=>none) (fun _ _=>none) (fun _=>none) (fun _ _ _ _=>none) (fun _ _ _=>none) (fun _ _ _=>none) (fun a=>V.onFlt (fun b=>on (Flt.D.add a b) fun r=>some (.flt r))) ⟨⟩ (fun _ _ _ _=>⟨⟩) v u
def arV (f:IntKind→Int→Int→Option V) (g:Nat→Nat→Option Nat) (v u:V):Option V:=V.rec (motive_1:=fun _=>V→Option V) (motive_2:=fun _=>PUnit)
 (fun k x=>V.onInt (fun j y=>Bool.rec none (f k x y) (Nat.beq (kindN k) (kindN j)))) (fun _ _=>none) (fun _ _=>none) (fun _=>none) (fun _ _ _ _=>none) (fun _=>none) (fun _ _ _ _ _=>none) (fun _ _ _ _ _ _=>none) (fun _ _=>none) (fun _=>none) (fun _=>none) (fun _ _=>none) (fun _=>none) (fun _ _ _ _=>none) (fun _ _ _=>none) (fun _ _ _=>none) (fun a=>V.onFlt (fun b=>on (g a b) fun r=>some (.flt r))) ⟨⟩ (fun _ _ _ _=>⟨⟩) v u
def isO (p q r:Bool) (o:Option Ordering):Bool:=Option.rec false (fun o=>Ordering.rec p q r o) o
def cellEq (v:V):V→Option Bool:=V.rec (motive_1:=fun _=>V→Option Bool) (motive_2:=fun _=>PUnit)
 (fun k x=>V.onInt (fun j y=>Bool.rec none (some (eqI x y)) (Nat.beq (kindN k) (kindN j)))) (fun a=>V.onBool (fun b=>some (Bool.rec (bnot b) b a))) (fun a=>V.onStr (fun b=>some (eqL a b)))
 (fun _=>none) (fun _ _ _ _=>none) (fun _=>none) (fun _ _ _ _ _=>none) (fun _ _ _ _ _ _=>none) (fun _ _=>none) (fun _=>none) (fun _=>none) (fun _ _=>none) (fun _=>none) (fun _ _ _ _=>none) (fun _ _ _=>none) (fun _ _ _=>none) (fun _ _=>none) ⟨⟩ (fun _ _ _ _=>⟨⟩) v
def cellsEq (a:List V):List V→Option Bool:=List.rec (fun b=>List.rec (some true) (fun _ _ _=>none) b) (fun x _ ih b=>List.rec none (fun y m _=>on (cellEq x y) fun p=>on (ih m) fun q=>some (Bool.rec false q p)) b) a
def keyEq (v u:V):Option Bool:=V.rec (motive_1:=fun _=>V→Option Bool) (motive_2:=fun _=>PUnit)
 (fun k x=>cellEq (.int k x)) (fun b=>cellEq (.bool b)) (fun l=>cellEq (.str l)) (fun _=>none) (fun _ _ _ _=>none) (fun _=>none) (fun _ _ _ _ _=>none) (fun _ _ _ _ _ _=>none) (fun _ _=>none) (fun _=>none) (fun _=>none) (fun _ _=>none) (fun _=>none) (fun _ _ _ _=>none) (fun l _=>V.onAgg (fun m=>cellsEq l m)) (fun _ _ _=>none) (fun _ _=>none) ⟨⟩ (fun _ _ _ _=>⟨⟩) v u
def isB (v:V):Bool:=Option.rec false (fun b=>b) (V.onBool (fun _=>some true) v)
def isS (v:V):Bool:=Option.rec false (fun b=>b) (V.onStr (fun l=>some (Nat.ble (lenL l) 1000000)) v)
def inI (q:IntKind) (x:Int):Bool:=Int.rec (fun a=>Bool.rec (Lit.wf (.int q x)) true (Nat.ble a 127)) (fun _=>Lit.wf (.int q x)) x
def isI (q:IntKind) (v:V):Bool:=Option.rec false (fun b=>b) (V.onInt (fun k x=>some (Bool.rec false (inI q x) (Nat.beq (kindN k) (kindN q)))) v)
def only1 (f:V→Bool) (l:List V):Bool:=List.rec false (fun v m _=>List.rec (f v) (fun _ _ _=>false) m) l
def cutB (o k:Nat) (f:List V→Bool) (l:List V):Bool:=Option.rec false f (takeL k (dropL o l))
def allN (n:Nat) (f:Nat→Bool):Bool:=Nat.rec true (fun i ih=>Bool.rec false ih (f i)) n
def allF (fs:List Field) (f:Field→Bool):Bool:=List.rec true (fun x _ ih=>Bool.rec false ih (f x)) fs
def okL (Pr:Program):Nat→TypeId→(List V→Bool)
 | 0,_=>fun _=>false
 | d+1,t=>match Pr.underlying t with
  | some .bool=>only1 isB
  | some (.int q)=>only1 (isI q)
  | some .string=>only1 isS
  | some (.array n e)=>fun cs=>Bool.rec false (allN n fun i=>cutB (Nat.mul i (Pr.cellsOf e)) (Pr.cellsOf e) (okL Pr d e) cs) (Nat.beq (lenL cs) (Pr.cellsOf t))
  | some (.struct fs)=>fun cs=>Bool.rec false (Bool.rec false (allF fs.toList fun f=>cutB f.offset (Pr.cellsOf f.type) (okL Pr d f.type) cs) (Nat.beq (lenL cs) (Pr.cellsOf t))) (fs.all (·.name != "_"))
  | _=>fun _=>false
def wideT (Pr:Program) (t:TypeId):Bool:=match Pr.underlying t with
 | some (.array _ _) | some (.struct _)=>Pr.keyTypeAt 40 t && Pr.keyType t && Pr.tiled 40 t
 | _=>false
def aggOk (Pr:Program) (t:TypeId):V→Bool:=fun v=>Option.rec false (fun b=>b) (V.onAgg (fun l=>some (okL Pr (Pr.types.size+1) t l)) v)
def okK (Pr:Program) (t:TypeId):V→Bool:=match Pr.underlying t with
 | some .string=>fun v=>Option.rec false (fun b=>b) (V.onStr (fun _=>some true) v)
 | some .bool=>isB
 | some (.int q)=>isI q
 | _=>Bool.rec (fun _=>false) (aggOk Pr t) (wideT Pr t)
def eqD (Pr:Program) (t:TypeId) (c:Bool):V→V→Option Bool:=match Pr.underlying t with
 | some .bool=>fun v u=>V.onBool (fun a=>V.onBool (fun b=>some (Bool.rec (bnot b) b a)) u) v
 | some (.pointer _)=>fun v u=>V.rec (motive_1:=fun _=>Option Bool) (motive_2:=fun _=>PUnit) (fun _ _=>none) (fun _=>none) (fun _=>none) (onP (some true) (some false) u) (fun _ _ _=>onP (some false) none u) none (fun _ _ _ _=>none) (fun _ _ _ _ _=>none) (fun _=>none) none none (fun _=>none) none (fun _ _ _=>none) (fun _ _=>none) (fun _ _=>none) (fun _=>none) ⟨⟩ (fun _ _ _ _=>⟨⟩) v
 | some (.slice _)=>fun v u=>V.onSl (V.onSl (some true) (fun _ _ _ _=>some false) u) (fun _ _ _ _=>V.onSl (some false) (fun _ _ _ _=>none) u) v
 | some (.map _ _)=>fun v u=>V.onMap (V.onMap (some true) (fun _=>some false) u) (fun _=>V.onMap (some false) (fun _=>none) u) v
 | some (.func _ _ _)=>fun v u=>V.rec (motive_1:=fun _=>Option Bool) (motive_2:=fun _=>PUnit) (fun _ _=>none) (fun _=>none) (fun _=>none) none (fun _ _ _=>none) none (fun _ _ _ _=>none) (fun _ _ _ _ _=>onF (some false) none u) (fun _=>none) (onF (some true) (some false) u) none (fun _=>none) none (fun _ _ _=>none) (fun _ _=>none) (fun _ _=>none) (fun _=>none) ⟨⟩ (fun _ _ _ _=>⟨⟩) v
 | some (.interface _)=>fun v u=>V.rec (motive_1:=fun _=>Option Bool) (motive_2:=fun _=>PUnit) (fun _ _=>none) (fun _=>none) (fun _=>none) none (fun _ _ _=>none) none (fun _ _ _ _=>none) (fun _ _ _ _ _=>none) (fun _=>none) none none (fun _=>none) (onI (Bool.rec none (some true) c) (some false) u) (fun _ _ _=>onI (some false) none u) (fun _ _=>none) (fun _ _=>none) (fun _=>none) ⟨⟩ (fun _ _ _ _=>⟨⟩) v
 | some (.struct _) | some (.array _ _)=>Bool.rec (fun _ _=>none) (fun v u=>Bool.rec none (Bool.rec none (keyEq v u) (aggOk Pr t u)) (aggOk Pr t v)) (Bool.rec false (bnot (Pr.eqGuardType Pr.depth t)) (wideT Pr t))
 | _=>fun _ _=>none
where
 onP (x y:Option Bool) (u:V):Option Bool:=V.rec (motive_1:=fun _=>Option Bool) (motive_2:=fun _=>PUnit) (fun _ _=>none) (fun _=>none) (fun _=>none) x (fun _ _ _=>y) none (fun _ _ _ _=>none) (fun _ _ _ _ _=>none) (fun _=>none) none none (fun _=>none) none (fun _ _ _=>none) (fun _ _=>none) (fun _ _=>none) (fun _=>none) ⟨⟩ (fun _ _ _ _=>⟨⟩) u
 onF (x y:Option Bool) (u:V):Option Bool:=V.rec (motive_1:=fun _=>Option Bool) (motive_2:=fun _=>PUnit) (fun _ _=>none) (fun _=>none) (fun _=>none) none (fun _ _ _=>none) none (fun _ _ _ _=>none) (fun _ _ _ _ _=>y) (fun _=>none) x none (fun _=>none) none (fun _ _ _=>none) (fun _ _=>none) (fun _ _=>none) (fun _=>none) ⟨⟩ (fun _ _ _ _=>⟨⟩) u
 onI (x y:Option Bool) (u:V):Option Bool:=V.rec (motive_1:=fun _=>Option Bool) (motive_2:=fun _=>PUnit) (fun _ _=>none) (fun _=>none) (fun _=>none) none (fun _ _ _=>none) none (fun _ _ _ _=>none) (fun _ _ _ _ _=>none) (fun _=>none) none none (fun _=>none) x (fun _ _ _=>y) (fun _ _=>none) (fun _ _=>none) (fun _=>none) ⟨⟩ (fun _ _ _ _=>⟨⟩) u
def eqQ (Pr:Program) (t:TypeId) (c:Bool) (v u:V):Option Bool:=V.rec (motive_1:=fun _=>Option Bool) (motive_2:=fun _=>PUnit)
 (fun k x=>cellEq (.int k x) u) (fun b=>eqD Pr t c (.bool b) u) (fun l=>cellEq (.str l) u) (eqD Pr t c .pnil u) (fun b i j=>eqD Pr t c (.ptr b i j) u) (eqD Pr t c .snil u) (fun b i l k=>eqD Pr t c (.sl b i l k) u) (fun f a b _ _=>eqD Pr t c (.fn f a b) u) (fun _=>none) (eqD Pr t c .fnil u) (eqD Pr t c .mnil u) (fun b=>eqD Pr t c (.map b) u) (eqD Pr t c .inil u) (fun t' x _=>eqD Pr t c (.iface t' x) u) (fun l _=>eqD Pr t c (.agg l) u) (fun _ _=>none)
 (fun a=>V.onFlt (fun b=>some (isO false true false (Flt.D.order a b))) u) ⟨⟩ (fun _ _ _ _=>⟨⟩) v
def binQ (Pr:Program) (t:TypeId) (c:Bool) (op:BinOp):V→V→Option V:=BinOp.rec (motive:=fun _=>V→V→Option V)
 addV (arV (fun k x y=>some (.int k (subI k x y))) fun a b=>Flt.D.sub a b) (arV (fun k x y=>some (.int k (k.wrap (x * y)))) fun a b=>Flt.D.mul a b) (arV (fun k x y=>Bool.rec (some (.int k (k.wrap (x.tdiv y)))) none (eqI y 0)) fun a b=>Flt.D.div a b) (divV fun k x y=>.int k (x.tmod y))
 (int2 fun k x y=>.int k (k.wrap (BitVec.ofInt k.bits x &&& BitVec.ofInt k.bits y).toNat)) (int2 fun k x y=>.int k (k.wrap (BitVec.ofInt k.bits x ||| BitVec.ofInt k.bits y).toNat)) (int2 fun k x y=>.int k (k.wrap (BitVec.ofInt k.bits x ^^^ BitVec.ofInt k.bits y).toNat))
 (shV fun k x y=>.int k (k.wrap (x * 2 ^ (min y.toNat k.bits)))) (shV fun k x y=>.int k (x.fdiv (2 ^ (min y.toNat k.bits)))) (int2 fun k x y=>.int k (k.wrap (BitVec.ofInt k.bits x &&& ~~~ BitVec.ofInt k.bits y).toNat))
 (fun v u=>on (eqQ Pr t c v u) fun b=>some (.bool b)) (fun v u=>on (eqQ Pr t c v u) fun b=>some (.bool (bnot b)))
 (ord2 ltI ltL (isO true false false)) (ord2 (fun x y=>bnot (ltI y x)) (fun a b=>bnot (ltL b a)) (isO true true false)) (ord2 (fun x y=>ltI y x) (fun a b=>ltL b a) (isO false false true)) (ord2 (fun x y=>bnot (ltI x y)) (fun a b=>bnot (ltL a b)) (isO false true true)) op
def unQ (op:UnOp):V→Option V:=UnOp.rec (V.onInt fun k x=>some (.int k (k.wrap (0-x)))) (V.onInt fun k x=>some (.int k (k.wrap (BitVec.ofInt k.bits (if k.signed=true then -1 else k.max) ^^^ BitVec.ofInt k.bits x).toNat))) (V.onBool fun b=>some (.bool (bnot b))) (fun _=>none) op
end
end Go.Lk
namespace Go.Lk
open Go.Eng Go.RowKit
noncomputable section
/-! ### Quiet operations -/
def packQ (g:Option Nat):List V→Option V:=Option.rec (fun l=>List.rec none (fun v m _=>List.rec (some v) (fun _ _ _=>none) m) l) (fun _ l=>some (.agg l)) g
def cell1 (b:P) (i j:Nat) (h:T Blk):Option V:=on (T.get b h) (Blk.on2 (fun rs=>on (nthL i rs) fun row=>nthL j row) (fun l=>Bool.rec none (on (nthL i l) fun c=>some (.int .u8 (.ofNat c))) (Nat.beq j 0)))
def loadQ (g:Option Nat):V→T Blk→Option V:=Option.rec (fun v h=>V.onPtr (fun b i j=>cell1 b i j h) v) (fun k v h=>V.onPtr (fun b i j=>on (readN k b i j h) fun l=>some (.agg l)) v) g
def fillQ (place:Nat→Option (Nat × Nat)) (parts:List (Nat × Operand)):T V→List V→Option (List V):=List.rec (fun _ l=>some l)
 (fun p _ ih σ l=>Prod.rec (fun i x=>on (place i) fun os=>Prod.rec (fun o s=>on (evO x σ) (V.onCells fun c=>Bool.rec none (on (overAt c o l) fun l'=>ih σ l') (Nat.beq (lenL c) s))) os) p) parts
def placeT (Pr:Program) (t:TypeId):Option (Nat→Option (Nat × Nat)):=match Pr.underlying t with
 | some (.array _ e)=>(Pr.info? e).map fun ie=>fun i=>some (i * ie.size,ie.size)
 | some (.struct fields)=>(fields.toList.mapM (fun f=>(Pr.info? f.type).map fun i=>(f.offset,i.size))).map fun places=>fun i=>places[i]?
 | _=>none
def buildQ (Pr:Program) (t:TypeId) (parts:List (Nat × Operand)):T V→Option V:=match placeT Pr t,zcT Pr t with
 | some pl,some z=>fun σ=>on (fillQ pl parts σ z) fun l=>some (.agg l)
 | _,_=>fun _=>none
def nilQ (v:V):Option V:=V.rec (motive_1:=fun _=>Option V) (motive_2:=fun _=>PUnit)
 (fun k x=>some (.int k x)) (fun b=>some (.bool b)) (fun l=>some (.str l)) none (fun b i j=>some (.ptr b i j)) (some .snil) (fun b i l c=>some (.sl b i l c)) (fun f a b _ _=>some (.fn f a b)) (fun l=>some (.yield l)) none (some .mnil) (fun b=>some (.map b)) none (fun t v _=>some (.iface t v)) (fun l _=>some (.agg l)) (fun l _=>some (.tup l)) (fun _=>none) ⟨⟩ (fun _ _ _ _=>⟨⟩) v
def bnd (d:Nat) (x:Option Operand) (σ:T V):Option Nat:=Option.rec (some d) (fun x=>on (evO x σ) (onNat some)) x
def sliceStr (l:List Nat) (e a:Nat):Option V:=Bool.rec none (on (takeL e l) fun m=>some (.str (dropL a m))) (Nat.ble a e)
def sliceCap (b:P) (i:Nat) (c e a:Nat):Option V:=Bool.rec none (Bool.rec none (some (.sl b (Bool.rec (Nat.add i a) i (Nat.beq c a)) (Nat.sub e a) (some (Nat.sub c a)))) (Nat.ble e c)) (Nat.ble a e)
def sliceOpen (b:P) (i len:Nat) (e a:Nat):Option V:=Bool.rec none (Bool.rec none (Bool.rec (Bool.rec (Bool.rec none (some (.sl b (Nat.add 1099511627776 (Nat.add (Nat.mul 1048576 i) (Nat.add i a))) 0 none)) (Nat.blt (Nat.add i a) 1048576)) (some (.sl b i e none)) (Nat.beq a 0)) (Bool.rec none (some (.sl b (Nat.add i a) (Nat.sub e a) none)) (Nat.blt (Nat.add i a) 1099511627776)) (Nat.blt a len)) (Nat.ble e len)) (Nat.ble a e)
def rowsOf (b:P) (es:Option Nat) (h:T Blk) {β:Type} (f:Option β):Option β:=on es fun kk=>on (T.get b h) (Blk.onWid fun k=>Bool.rec none f (Nat.beq k kk))
def slice2 (st:Bool) (es:Option Nat) (lo hi:Option Operand) (v:V) (σ:T V) (h:T Blk):Option V:=V.rec (motive_1:=fun _=>Option V) (motive_2:=fun _=>PUnit)
 (fun _ _=>none) (fun _=>none) (fun l=>Bool.rec none (on (bnd (lenL l) hi σ) fun e=>on (bnd 0 lo σ) fun a=>sliceStr l e a) st) none (fun _ _ _=>none) (on es fun _=>on (bnd 0 hi σ) fun e=>on (bnd 0 lo σ) fun a=>Bool.rec none (Bool.rec none (some .snil) (Nat.beq a 0)) (Nat.beq e 0))
 (fun b i len c=>rowsOf b es h (on (bnd len hi σ) fun e=>on (bnd 0 lo σ) fun a=>Option.rec (sliceOpen b i len e a) (fun c=>sliceCap b i c e a) c)) (fun _ _ _ _ _=>none) (fun _=>none) none none (fun _=>none) none (fun _ _ _=>none) (fun _ _=>none) (fun _ _=>none) (fun _=>none) ⟨⟩ (fun _ _ _ _=>⟨⟩) v
def slice3 (es:Option Nat) (lo:Option Operand) (hi mx:Operand) (v:V) (σ:T V) (h:T Blk):Option V:=V.onSl none (fun b i len c=>rowsOf b es h (on (bnd 0 (some hi) σ) fun e=>on (bnd 0 lo σ) fun a=>on (bnd 0 (some mx) σ) fun m=>
 Bool.rec none (Bool.rec none (sliceCap b i m e a) (Nat.blt i 1099511627776)) (Nat.ble m (Option.rec len (fun c=>c) c)))) v
def elemK (Pr:Program) (t:TypeId):Option Nat:=match elemT Pr t with
 | some e=>szT Pr e
 | none=>none
def strT (Pr:Program) (t:TypeId):Bool:=match Pr.underlying t with
 | some .string=>true
 | _=>false
def sliceQ (Pr:Program) (t:TypeId) (lo hi mx:Option Operand) (v:V):T V→T Blk→Option V:=match mx with
 | none=>slice2 (strT Pr t) (elemK Pr t) lo hi v
 | some m=>match hi with
  | some e=>slice3 (elemK Pr t) lo e m v
  | none=>fun _ _=>none
def indexAddrQ (a:Option (Nat × Nat)) (es:Option Nat) (h:T Blk) (v:V) (i:Nat):Option V:=V.rec (motive_1:=fun _=>Option V) (motive_2:=fun _=>PUnit)
 (fun _ _=>none) (fun _=>none) (fun _=>none) none (fun b r j=>on a fun nk=>Prod.rec (fun n k=>Bool.rec none (some (.ptr b r (Nat.add j (Nat.mul i k)))) (Nat.blt i n)) nk) none (fun b o len _=>Bool.rec none (rowsOf b es h (some (.ptr b (Nat.add o i) 0))) (Nat.blt i len)) (fun _ _ _ _ _=>none) (fun _=>none) none none (fun _=>none) none (fun _ _ _=>none) (fun _ _=>none) (fun _ _=>none) (fun _=>none) ⟨⟩ (fun _ _ _ _=>⟨⟩) v
def arrK (Pr:Program) (t:TypeId):Option (Nat × Nat):=match arrT Pr t with
 | some (n,e)=>(szT Pr e).map fun k=>(n,k)
 | none=>none
def arrG (Pr:Program) (t:TypeId):Option (Nat × Nat × Option Nat):=match arrT Pr t with
 | some (n,e)=>match szT Pr e,aggT Pr e with
  | some k,some g=>some (n,k,g)
  | _,_=>none
 | none=>none
def indexQ (st:Bool) (a:Option (Nat × Nat × Option Nat)) (v:V) (i:Nat):Option V:=V.rec (motive_1:=fun _=>Option V) (motive_2:=fun _=>PUnit)
 (fun _ _=>none) (fun _=>none) (fun l=>Bool.rec none (on (nthL i l) fun c=>some (.int .u8 (.ofNat c))) st) none (fun _ _ _=>none) none (fun _ _ _ _=>none) (fun _ _ _ _ _=>none) (fun _=>none) none none (fun _=>none) none (fun _ _ _=>none)
 (fun l _=>on a fun nk=>Bool.rec none (on (takeL nk.2.1 (dropL (Nat.mul i nk.2.1) l)) fun m=>packQ nk.2.2 m) (Nat.blt i nk.1)) (fun _ _=>none) (fun _=>none) ⟨⟩ (fun _ _ _ _=>⟨⟩) v
def fieldQ (o:Nat) (k:Nat) (g:Option Nat) (v:V):Option V:=V.onAgg (fun l=>on (takeL k (dropL o l)) fun m=>packQ g m) v
/-! ### Maps -/
abbrev Ent:=V × V × Nat
def onMapB {β:Type} (h:T Blk) (b:P) (f:List Ent→Nat→Option β):Option β:=on (T.get b h) (Blk.onMap f)
def allK (ok:V→Bool) (es:List Ent):Bool:=List.rec true (fun e _ ih=>Bool.rec false ih (ok e.1)) es
def findR {β:Type} (k:V) (f:Nat→Ent→Option β) (g:Option β) (es:List Ent):Nat→Option β:=List.rec (fun _=>g) (fun e _ ih i=>on (keyEq k e.1) fun b=>Bool.rec (ih (Nat.succ i)) (f i e) b) es
def findE {β:Type} (ok:V→Bool) (k:V) (f:Nat→Ent→Option β) (g:Option β) (es:List Ent):Option β:=Bool.rec none (Bool.rec none (findR k f g es 0) (allK ok es)) (ok k)
def setS (s:Nat) (v:V) (es:List Ent):Option (List Ent):=List.rec none (fun e r ih=>Bool.rec (on ih fun m=>some (e::m)) (some ((e.1,v,e.2.2)::r)) (Nat.beq e.2.2 s)) es
def keyT (Pr:Program) (t:TypeId):V→Bool:=match Pr.underlying t with
 | some (.map k _)=>okK Pr k
 | _=>fun _=>false
def mapElemT (Pr:Program) (t:TypeId):Option V:=match Pr.underlying t with
 | some (.map _ e)=>zeroT Pr e
 | _=>none
def lookQ (kt:V→Bool) (z:Option V) (ok:Bool) (m k:V) (h:T Blk):Option V:=
 V.onMap (Bool.rec none (on z fun z=>some (Bool.rec z (.tup [z,.bool false]) ok)) (kt k)) (fun b=>onMapB h b fun es _=>findE kt k (fun _ e=>some (Bool.rec e.2.1 (.tup [e.2.1,.bool true]) ok)) (on z fun z=>some (Bool.rec z (.tup [z,.bool false]) ok)) es) m
def mapPut (b:P) (es:List Ent) (c:Nat) (h:T Blk):T Blk:=T.put (some (.map es c)) b h
def updQ (kt:V→Bool) (m k v:V) (h:T Blk):Option (T Blk):=V.onMap none (fun b=>onMapB h b fun es c=>findE kt k (fun i e=>on (setL (e.1,v,e.2.2) i es) fun es'=>some (mapPut b es' c h)) (some (mapPut b (appL es [(k,v,c)]) (Nat.succ c) h)) es) m
/-! ### Runs -/
abbrev Res:=V × T Blk × P
inductive Task where
 | call (f:FuncId) (args:List V)
 | dcall (f:FuncId) (args:List V)
 | round (l:P) (args:List V)
abbrev Run:=Task→T Blk→P→Option Res
abbrev OX (β:Type):=Run→T V→T Blk→P→(V→T Blk→P→Option β)→Option β
class Jn (β:Type) where
 j:Option β→Option β→Option β
class JnOK (β:Type) [Jn β]:Prop where
 ok:∀ (x y:Option β) (r:β),Jn.j x y=some r→x=some r∧y=some r
instance jnProd {α γ:Type}:Jn (α × γ):=⟨fun _ _=>none⟩
instance jnProdOK {α γ:Type}:JnOK (α × γ):=⟨fun _ _ _ e=>by cases e⟩
instance jnV:Jn V:=⟨fun _ _=>none⟩
instance jnVOK:JnOK V:=⟨fun _ _ _ e=>by cases e⟩
instance jnUnit:Jn Unit:=⟨fun x y=>Option.rec none (fun _=>y) x⟩
instance jnUnitOK:JnOK Unit:=⟨fun x y r e=>by cases x <;> cases y <;> first | exact ⟨rfl,rfl⟩ | cases e⟩
inductive Cand where
 | mk (r:Res)
instance jnCand:Jn Cand:=⟨fun x _=>x⟩
section
variable {β:Type} (Pr:Program)
def qx (q:T V→T Blk→Option V):OX β:=fun _ σ h n k=>on (q σ h) fun v=>k v h n
def newB (B:Blk) (v:V) (h:T Blk) (n:P) (k:V→T Blk→P→Option β):Option β:=k v (T.put (some B) n h) (P.succ n)
def rowB (t:TypeId) (l:List V):Blk:=.rows t (lenL l) false [l]
def storeX (g:Option Nat) (a x:Operand):OX β:=fun _ σ h n k=>on (evO a σ) fun p=>on (evO x σ) (V.onCells fun c=>V.onPtr (fun b i j=>on g fun g=>
 Bool.rec none (Bool.rec none (on (writeN c b i j h) fun h'=>k undefV h' n) (onesV c)) (Nat.beq (lenL c) g)) p)
def elZ (e:TypeId):Option (Nat × List V):=match Pr.info? e,zcT Pr e with
 | some i,some z=>if lenL z=i.size∧0<i.size then some (i.size,z) else none
 | _,_=>none
def sliceB (t:TypeId):Option (TypeId × Nat × List V):=match elemT Pr t with
 | some e=>(elZ Pr e).map fun k=>(e,k)
 | none=>none
def buildSliceX (t:TypeId) (len:Nat) (parts:List (Nat × Operand)):OX β:=match sliceB Pr t with
 | some (e,k,z)=>if len * k≤16777216 then fun _ σ h n c=>on (fillQ (fun i=>some (i * k,k)) parts σ (flatL (repL z len))) fun l=>on (rowsL k len l) fun rs=>newB (.rows e k false rs) (.sl n 0 len (some len)) h n c else fun _ _ _ _ _=>none
 | none=>fun _ _ _ _ _=>none
def bytesT (e:TypeId):Nat:=match Pr.info? e with
 | some i=>i.bytes
 | none=>0
def makeSliceX (t:TypeId) (l c:Operand):OX β:=match sliceB Pr t with
 | some (e,k,z)=>fun _ σ h n f=>on (evO l σ) fun l=>on (evO c σ) fun c=>onNat (fun l=>onNat (fun c=>Bool.rec none (Bool.rec none (Bool.rec none (newB (.rows e k false (repL z c)) (.sl n 0 l (some c)) h n f) (Nat.ble (Nat.mul (bytesT Pr e) c) 281474976710656)) (Nat.ble c 100000)) (Nat.ble l c)) c) l
 | none=>fun _ _ _ _ _=>none
def writeRows (b:P) (i:Nat) (new:List (List V)) (h:T Blk):Option (T Blk):=on (T.get b h) (Blk.onRows fun t k op rs=>on (overAt new i rs) fun rs'=>some (T.put (some (.rows t k op rs')) b h))
def elT (e:TypeId):Option (Nat × Nat):=match Pr.info? e with
 | some i=>match i.zero with
  | some z=>if z.cells.size=i.size∧0<i.size∧0<i.bytes then some (i.size,i.bytes) else none
  | none=>none
 | none=>none
def growX (e:TypeId) (kk:Nat) (rows:List (List V)) (len:Nat) (h:T Blk) (n:P) (k:V→T Blk→P→Option β):Option β:=newB (.rows e kk true rows) (.sl n 0 len none) h n k
def sliceRows (kk:Nat) (b:P) (i len:Nat) (h:T Blk) (f:List (List V)→Option β):Option β:=on (T.get b h) (Blk.onRows fun _ k _ rs=>Bool.rec none (on (takeL len (dropL i rs)) f) (Nat.beq k kk))
def sliceRowsT (e:TypeId) (kk:Nat) (b:P) (i len:Nat) (h:T Blk) (f:List (List V)→Option β):Option β:=on (T.get b h) (Blk.onRows fun t k _ rs=>Bool.rec none (Bool.rec none (on (takeL len (dropL i rs)) f) (Nat.beq k kk)) (Nat.beq t e))
def sliceRows2 (kk:Nat) (b:P) (i len:Nat) (h:T Blk) (f:List (List V)→Option β):Option β:=on (T.get b h) (Blk.rec (fun _ k _ rs=>Bool.rec none (on (takeL len (dropL i rs)) f) (Nat.beq k kk)) (fun _ _=>none) (fun _ _=>none) (fun _ _ _ _=>none) (fun _ _ _ _ _ _ _ _=>none) (fun _=>none)
 (fun l=>Bool.rec none (on (takeL len (dropL i l)) fun m=>f (mapL (fun c=>[.int .u8 (.ofNat c)]) m)) (Nat.beq kk 1)))
def appendR (e:TypeId) (kk by_:Nat) (new:List (List V)) (m:Nat) (s:V) (h:T Blk) (n:P) (k:V→T Blk→P→Option β):Option β:=
 V.onSl (Bool.rec none (growX e kk new m h n k) (Nat.ble (Nat.mul m by_) 140737488355328)) (fun b i len c=>Bool.rec none (Bool.rec none
  (Option.rec (sliceRowsT e kk b i len h fun old=>growX e kk (appL old new) (Nat.add len m) (T.put none b h) n k)
   (fun c=>Bool.rec (sliceRows kk b i len h fun old=>growX e kk (appL old new) (Nat.add len m) h n k)
    (sliceRows kk b i len h fun _=>on (writeRows b (Nat.add i len) new h) fun h'=>k (.sl b i (Nat.add len m) (some c)) h' n) (Nat.ble (Nat.add len m) c)) c)
  (Nat.ble (Nat.mul (Nat.add len m) by_) 140737488355328)) (onesV (flatL new))) s
def appendX (e:TypeId) (kk by_:Nat) (s x:V) (h:T Blk) (n:P) (k:V→T Blk→P→Option β):Option β:=
 V.onSl (V.onSl (k s h n) (fun _ _ _ _=>k s h n) s) (fun b i m _=>Bool.rec (sliceRows2 kk b i m h fun new=>appendR e kk by_ new m s h n k) (V.onSl (k s h n) (fun _ _ _ _=>k s h n) s) (Nat.beq m 0)) x
def appendS (e:TypeId) (kk by_:Nat) (s:V) (l:List Nat) (h:T Blk) (n:P) (k:V→T Blk→P→Option β):Option β:=
 Bool.rec (appendR e kk by_ (mapL (fun c=>[.int .u8 (.ofNat c)]) l) (lenL l) s h n k) (V.onSl (k s h n) (fun _ _ _ _=>k s h n) s) (Nat.beq (lenL l) 0)
def sliceE (t:TypeId):Option (TypeId × Nat × Nat):=match elemT Pr t with
 | some e=>(elT Pr e).map fun k=>(e,k)
 | none=>none
def arg1 (f:V→T Blk→P→(V→T Blk→P→Option β)→Option β) (as:List V) (h:T Blk) (n:P) (k:V→T Blk→P→Option β):Option β:=List.rec none (fun x r _=>List.rec (f x h n k) (fun _ _ _=>none) r) as
def arg2 (f:V→V→T Blk→P→(V→T Blk→P→Option β)→Option β) (as:List V) (h:T Blk) (n:P) (k:V→T Blk→P→Option β):Option β:=List.rec none (fun x r _=>List.rec none (fun y r _=>List.rec (f x y h n k) (fun _ _ _=>none) r) r) as
def minF (x y:Nat):Option Nat:=Bool.rec (Bool.rec (Bool.rec none (Bool.rec none (some x) (Nat.beq x y)) (isO false true false (Flt.D.order x y))) (some y) (isO false false true (Flt.D.order x y))) (some x) (isO true false false (Flt.D.order x y))
def maxQ (v u:V):Option V:=V.onInt (fun k x=>V.onInt (fun j y=>Bool.rec none (some (.int k (Bool.rec x y (ltI x y)))) (Nat.beq (kindN k) (kindN j))) u) v
def minQ (v u:V):Option V:=V.rec (motive_1:=fun _=>Option V) (motive_2:=fun _=>PUnit)
 (fun k x=>V.onInt (fun j y=>Bool.rec none (some (.int k (Bool.rec x y (ltI y x)))) (Nat.beq (kindN k) (kindN j))) u) (fun _=>none) (fun _=>none) none (fun _ _ _=>none) none (fun _ _ _ _=>none) (fun _ _ _ _ _=>none) (fun _=>none) none none (fun _=>none) none (fun _ _ _=>none) (fun _ _=>none) (fun _ _=>none)
 (fun a=>V.onFlt (fun b=>on (minF a b) fun c=>some (.flt c)) u) ⟨⟩ (fun _ _ _ _=>⟨⟩) v
def builtinX (b:Builtin) (ts:Array TypeId):List V→T Blk→P→(V→T Blk→P→Option β)→Option β:=match b with
 | .len=>match (ts[0]?).bind Pr.underlying with
  | some .string=>arg1 fun x h n k=>V.onStr (fun l=>k (.int .i64 (.ofNat (lenL l))) h n) x
  | some (.slice _)=>arg1 fun x h n k=>V.onSl (k (.int .i64 0) h n) (fun _ _ len _=>k (.int .i64 (.ofNat len)) h n) x
  | some (.map _ _)=>arg1 fun x h n k=>V.onMap (k (.int .i64 0) h n) (fun b=>onMapB h b fun es _=>k (.int .i64 (.ofNat (lenL es))) h n) x
  | _=>fun _ _ _ _=>none
 | .cap=>match (ts[0]?).bind Pr.underlying with
  | some (.slice _)=>arg1 fun x h n k=>V.onSl (k (.int .i64 0) h n) (fun _ _ _ c=>Option.rec none (fun c=>k (.int .i64 (.ofNat c)) h n) c) x
  | _=>fun _ _ _ _=>none
 | .append=>match ts[0]? with
  | some t=>match sliceE Pr t with
   | some (e,kk,by_)=>if ts=#[t,t] then arg2 fun s x h n k=>appendX e kk by_ s x h n k
    else match (ts[1]?).bind Pr.underlying,kk with
     | some .string,1=>arg2 fun s x h n k=>V.onStr (fun l=>appendS e kk by_ s l h n k) x
     | _,_=>fun _ _ _ _=>none
   | none=>fun _ _ _ _=>none
  | none=>fun _ _ _ _=>none
 | .min=>arg2 fun x y h n k=>on (minQ x y) fun c=>k c h n
 | .max=>arg2 fun x y h n k=>on (maxQ x y) fun c=>k c h n
 | .clear=>match (ts[0]?).bind Pr.underlying with
  | some (.map _ _)=>arg1 fun x h n k=>V.onMap (k (.tup []) h n) (fun b=>onMapB h b fun _ c=>k (.tup []) (mapPut b [] c h) n) x
  | some (.slice _)=>match (ts[0]?).bind (sliceB Pr) with
   | some (_,kk,z)=>arg1 fun x h n k=>V.onSl (k (.tup []) h n) (fun b i len _=>Bool.rec (Bool.rec none (sliceRows kk b i len h fun _=>on (writeRows b i (repL z len) h) fun h'=>k (.tup []) h' n) (onesV (flatL (repL z len)))) (k (.tup []) h n) (Nat.beq len 0)) x
   | none=>fun _ _ _ _=>none
  | _=>fun _ _ _ _=>none
 | _=>fun _ _ _ _=>none
def callV (run:Run) (f:V) (as:List V) (h:T Blk) (n:P) (k:V→T Blk→P→Option β):Option β:=
 V.onFn (fun f a b=>on (run (.call f (appL a (appL as b))) h n) fun r=>Prod.rec (fun v hn=>Prod.rec (fun h n=>k v h n) hn) r) (fun l=>on (run (.round l as) h n) fun r=>Prod.rec (fun v hn=>Prod.rec (fun h n=>k v h n) hn) r) f
def V.onIface {β:Type} (f:TypeId→V→Option β) (v:V):Option β:=V.rec (motive_1:=fun _=>Option β) (motive_2:=fun _=>PUnit)
 (fun _ _=>none) (fun _=>none) (fun _=>none) none (fun _ _ _=>none) none (fun _ _ _ _=>none) (fun _ _ _ _ _=>none) (fun _=>none) none none (fun _=>none) none (fun t x _=>f t x) (fun _ _=>none) (fun _ _=>none) (fun _=>none) ⟨⟩ (fun _ _ _ _=>⟨⟩) v
def methT (t:TypeId) (name:String):Option FuncId:=match Pr.info? t with
 | some i=>match i.methods.find? (·.name == name) with
  | some m=>match m.path.toList,m.func,Pr.underlying t with
   | [],some (f,true),some (.pointer _)=>some f
   | _,_,_=>none
  | none=>none
 | none=>none
def callX (c:Call):OX β:=Call.rec (fun callee as ts=>Callee.rec (fun f run σ h n k=>on (evO f σ) fun f=>on (evOs as.toList σ) fun as=>callV run f as h n k)
 (fun x name run σ h n k=>on (evO x σ) fun x=>on (evOs as.toList σ) fun as=>V.onIface (fun t y=>on (methT Pr t name) fun f=>callV run (.fn f [y] []) as h n k) x) (fun b=>fun _ σ h n k=>on (evOs as.toList σ) fun as=>builtinX Pr b ts as h n k) callee) c
def bytesR (rs:List (List V)):Option (List Nat):=List.rec (some []) (fun r _ ih=>List.rec none (fun v _ _=>V.onInt (fun k x=>Bool.rec none (Int.rec (fun c=>Bool.rec none (on ih fun l=>some (c::l)) (Nat.blt c 256)) (fun _=>none) x) (Nat.beq (kindN k) 4)) v) r) rs
inductive CK where
 | int (k:IntKind)
 | flt
 | str (bs:Bool)
 | bytes (e:TypeId)
 | no
def u8T (e:TypeId):Bool:=match Pr.underlying e with
 | some (.int .u8)=>true
 | _=>false
def bytesTy (t:TypeId):Bool:=match Pr.underlying t with
 | some (.slice e)=>u8T Pr e
 | _=>false
def convK (s d:TypeId):CK:=match Pr.underlying s,Pr.underlying d with
 | some _,some (.int k)=>.int k
 | some _,some (.float .f64)=>.flt
 | some _,some .string=>.str (bytesTy Pr s)
 | some _,some (.slice e)=>if u8T Pr e then .bytes e else .no
 | _,_=>.no
def toStr (h:T Blk) (n:P) (f:V→T Blk→P→Option β) (bs:Bool) (v:V):Option β:=V.rec (motive_1:=fun _=>Option β) (motive_2:=fun _=>PUnit)
 (fun _ _=>none) (fun _=>none) (fun l=>f (.str l) h n) none (fun _ _ _=>none) (Bool.rec none (f (.str []) h n) bs) (fun b i len _=>Bool.rec none (sliceRows2 1 b i len h fun m=>on (bytesR m) fun l=>f (.str l) h n) bs) (fun _ _ _ _ _=>none) (fun _=>none) none none (fun _=>none) none (fun _ _ _=>none) (fun _ _=>none) (fun _ _=>none) (fun _=>none) ⟨⟩ (fun _ _ _ _=>⟨⟩) v
def convX (s d:TypeId) (x:Operand):OX β:=CK.rec
 (fun k=>qx fun σ _=>on (evO x σ) (V.onInt fun _ a=>some (.int k (k.wrap a))))
 (qx fun σ _=>on (evO x σ) (V.onInt fun _ a=>some (.flt (fromInt a))))
 (fun bs _ σ h n f=>on (evO x σ) (toStr h n f bs))
 (fun _ _ σ h n f=>on (evO x σ) (V.onStr fun l=>Bool.rec (newB (.fz l) (.sl n 0 (lenL l) none) h n f) none (Nat.beq (lenL l) 0)))
 (fun _ _ _ _ _=>none) (convK Pr s d)
def memL (x:Nat) (l:List Nat):Bool:=List.rec false (fun a _ ih=>Bool.rec ih true (Nat.beq a x)) l
def unseen (seen:List Nat) (es:List Ent):List Ent:=List.rec [] (fun e _ ih=>Bool.rec (e::ih) ih (memL e.2.2 seen)) es
def anyLt (last:Nat) (es:List Ent):Bool:=List.rec false (fun e _ ih=>Bool.rec ih true (Nat.blt e.2.2 last)) es
def stepOk (seen:List Nat) (es:List Ent) (last:Nat):Bool:=List.rec true (fun _ _ _=>List.rec true (fun _ _ _=>anyLt last es) es) seen
def nextStr (r:P) (l:List Nat) (p:Nat) (h:T Blk) (n:P) (k:V→T Blk→P→Option β):Option β:=
 List.rec (k (.tup [.bool false]) h n) (fun c l' _=>Bool.rec none (k (.tup [.bool true,.int .i64 (.ofNat p),.int .i32 (.ofNat c)]) (T.put (some (.strIter l' (Nat.succ p))) r h) n) (Nat.blt c 128)) l
section
variable [Jn β]
def chooseE (f:Ent→Option β) (l:List Ent):Option β:=List.rec none (fun e rest ih=>List.rec (f e) (fun _ _ _=>Jn.j (f e) ih) rest) l
def nextMap (r m:P) (since:Nat) (seen:List Nat) (last:Nat) (h:T Blk) (n:P) (k:V→T Blk→P→Option β):Option β:=onMapB h m fun es c=>Bool.rec none
 (List.rec (k (.tup [.bool false]) h n) (fun _ _ _=>chooseE (fun e=>Bool.rec none (k (.tup [.bool true,e.1,e.2.1]) (T.put (some (.mapIter (some m) since (e.2.2::seen) c)) r h) n) (Nat.blt e.2.2 since)) (unseen seen es)) (unseen seen es)) (stepOk seen es last)
end
def Blk.onStrI (f:List Nat→Nat→Option β) (B:Blk):Option β:=Blk.rec (fun _ _ _ _=>none) (fun _ _=>none) f (fun _ _ _ _=>none) (fun _ _ _ _ _ _ _ _=>none) (fun _=>none) (fun _=>none) B
def Blk.onMapI (f:Option P→Nat→List Nat→Nat→Option β) (B:Blk):Option β:=Blk.rec (fun _ _ _ _=>none) (fun _ _=>none) (fun _ _=>none) f (fun _ _ _ _ _ _ _ _=>none) (fun _=>none) (fun _=>none) B
section
variable [Jn β]
def nextX (it:Operand) (isStr:Bool):OX β:=Bool.rec
 (fun _ σ h n k=>on (evO it σ) (V.onPtr fun r _ j=>Bool.rec none (on (T.get r h) (Blk.onMapI fun m since seen last=>Option.rec (k (.tup [.bool false]) h n) (fun m=>nextMap r m since seen last h n k) m)) (Nat.beq j 0)))
 (fun _ σ h n k=>on (evO it σ) (V.onPtr fun r _ j=>Bool.rec none (on (T.get r h) (Blk.onStrI fun l p=>nextStr r l p h n k)) (Nat.beq j 0))) isStr
end
def atE (s:Nat) (es:List Ent):Option V:=List.rec none (fun e _ ih=>Bool.rec ih (some (.tup [e.1,e.2.1])) (Nat.beq e.2.2 s)) es
def entryQ (it:Operand) (σ:T V) (h:T Blk):Option V:=on (evO it σ) (V.onPtr fun r _ j=>Bool.rec none (on (T.get r h) (Blk.onMapI fun m _ seen last=>on m fun m=>List.rec none (fun s _ _=>onMapB h m fun es c=>Bool.rec none (atE s es) (Nat.beq c last)) seen)) (Nat.beq j 0))
def rangeOp (t:TypeId):V→T Blk→P→(V→T Blk→P→Option β)→Option β:=match Pr.underlying t with
 | some .string=>fun v h n f=>V.onStr (fun l=>newB (.strIter l 0) (.ptr n 0 0) h n f) v
 | some (.map _ _)=>fun v h n f=>V.onMap (newB (.mapIter none 0 [] 0) (.ptr n 0 0) h n f) (fun b=>onMapB h b fun _ c=>newB (.mapIter (some b) c [] c) (.ptr n 0 0) h n f) v
 | _=>fun _ _ _ _=>none
def mapTy (t:TypeId):Bool:=match Pr.underlying t with
 | some (.map _ _)=>true
 | _=>false
def concT (t:TypeId):Bool:=match Pr.underlying t with
 | some (.interface _)=>false
 | some _=>true
 | none=>false
def isC (x:Operand):Bool:=Operand.rec (fun _=>false) (fun _=>true) (fun _=>false) (fun _=>false) x
def opX [Jn β] (op:Op):OX β:=Op.rec (motive:=fun _=>OX β)
 (fun x=>qx fun σ _=>evO x σ) (fun x=>qx fun σ _=>evO x σ)
 (fun c a b=>qx fun σ _=>on (evO c σ) (V.onBool fun t=>Bool.rec (evO b σ) (evO a σ) t))
 (fun t=>Option.rec (fun _ _ _ _ _=>none) (fun z _ _ h n k=>newB (rowB t z) (.ptr n 0 0) h n k) (zcT Pr t))
 (fun t x _ σ h n k=>on (evO x σ) (V.onCells fun c=>newB (rowB t c) (.ptr n 0 0) h n k))
 (fun t parts=>qx fun σ _=>buildQ Pr t parts.toList σ)
 (fun t len parts=>buildSliceX Pr t len parts.toList)
 (fun t m k v _ σ h n f=>on (evO m σ) fun m=>on (evO k σ) fun k=>on (evO v σ) fun v=>on (updQ (keyT Pr t) m k v h) fun h'=>f undefV h' n)
 (fun t a=>Option.rec (fun _ _ _ _ _=>none) (fun g=>qx fun σ h=>on (evO a σ) fun v=>loadQ g v h) (aggT Pr t))
 (fun t a x=>storeX (szT Pr t) a x)
 (fun _ _ _ _ _ _=>none) (fun _ _ _ _ _ _=>none)
 (fun x=>qx fun σ _=>on (evO x σ) nilQ)
 (fun op t x y _=>qx fun σ _=>on (evO x σ) fun a=>on (evO y σ) fun b=>binQ Pr t (bor (isC x) (isC y)) op a b)
 (fun op _ x=>qx fun σ _=>on (evO x σ) (unQ op))
 (fun s d x=>convX Pr s d x)
 (fun _ _ _ _ _ _ _=>none)
 (fun t x=>qx fun σ _=>Bool.rec none (on (evO x σ) fun v=>some (.iface t v)) (concT Pr t))
 (fun g first captured=>match g with | .func f=>qx fun σ _=>on (evOs first.toList σ) fun a=>on (evOs captured.toList σ) fun b=>some (.fn f a b) | _=>fun _ _ _ _ _=>none)
 (fun t rs=>Option.rec (fun _ _ h n k=>newB (.map [] 0) (.map n) h n k) (fun x _ σ h n k=>Bool.rec none (on (evO x σ) (V.onInt fun _ _=>newB (.map [] 0) (.map n) h n k)) (mapTy Pr t)) rs)
 (fun _ _ _ _ _ _ _=>none)
 (fun t l c=>makeSliceX Pr t l c)
 (fun t x lo hi mx=>qx fun σ h=>on (evO x σ) fun v=>sliceQ Pr t lo hi mx v σ h)
 (fun s x f=>match fieldT Pr s f with | some fl=>(match szT Pr fl.type with | some (_+1)=>qx fun σ _=>on (evO x σ) (V.onPtr fun b i j=>some (.ptr b i (Nat.add j fl.offset))) | _=>fun _ _ _ _ _=>none) | none=>fun _ _ _ _ _=>none)
 (fun s x f=>match fieldT Pr s f with | some fl=>(match szT Pr fl.type,aggT Pr fl.type with | some k,some g=>qx fun σ _=>on (evO x σ) (fieldQ fl.offset k g) | _,_=>fun _ _ _ _ _=>none) | none=>fun _ _ _ _ _=>none)
 (fun t x i=>qx fun σ h=>on (evO x σ) fun v=>on (evO i σ) (onNat fun i=>indexAddrQ (arrK Pr t) (elemK Pr t) h v i))
 (fun t x i=>qx fun σ _=>on (evO x σ) fun v=>on (evO i σ) (onNat fun i=>indexQ (strT Pr t) (arrG Pr t) v i))
 (fun t m k ok=>qx fun σ h=>on (evO m σ) fun m=>on (evO k σ) fun k=>lookQ (keyT Pr t) (mapElemT Pr t) ok m k h)
 (fun t m k v _ σ h n f=>on (evO m σ) fun m=>on (evO k σ) fun k=>on (evO v σ) fun v=>on (updQ (keyT Pr t) m k v h) fun h'=>f undefV h' n)
 (fun t m k _ σ h n f=>on (evO m σ) fun m=>on (evO k σ) fun k=>V.onMap none (fun b=>onMapB h b fun es c=>
  findE (keyT Pr t) k (fun _ e=>f (.tup [e.2.1,.int .i64 (.ofNat e.2.2)]) h n) (on (mapElemT Pr t) fun z=>f (.tup [z,.int .i64 (.ofNat c)]) (mapPut b (appL es [(k,z,c)]) (Nat.succ c) h) n) es) m)
 (fun _ m s v _ σ h n f=>on (evO m σ) fun m=>on (evO s σ) fun s=>on (evO v σ) fun v=>V.onMap none (fun b=>onNat (fun s=>onMapB h b fun es c=>on (setS s v es) fun es'=>f undefV (mapPut b es' c h) n) s) m)
 (fun t x _ σ h n f=>on (evO x σ) fun v=>rangeOp Pr t v h n f)
 (fun it s=>nextX it s)
 (fun it=>qx fun σ h=>entryQ it σ h)
 (fun _ _ _ _ _ _ _ _ _=>none)
 (fun x i=>qx fun σ _=>on (evO x σ) (V.onTup fun l=>nthL i l))
 (fun c=>callX Pr c)
 (fun _ _ _ _ _ _=>none) (fun _ _ _ _ _ _=>none) (fun _ _ _ _ _ _=>none) (fun _ _ _ _ _ _ _=>none) (fun _ _ _ _ _ _ _ _=>none) (fun _ _ _ _ _ _ _=>none) op
end
end
end Go.Lk
namespace Go.Lk
open Go.Eng Go.RowKit
noncomputable section
inductive D where
 | call (f:FuncId) (args:List V)
 | mark (b:P)
abbrev KN (β:Type):=T V→List D→T Blk→P→Option β
abbrev EX (β:Type):=Run→Option P→T V→List D→T Blk→P→KN β→(X→KN β)→Option β
section
variable {β:Type} [Jn β] (Pr:Program)
def putD (d:Option Nat):V→T V→T V:=Option.rec (fun _ σ=>σ) (fun d v σ=>T.set v (pathOf d) σ) d
def operQ (o:Oper) (run:Run) (rd:Option P) (σ:T V) (ds:List D) (h:T Blk) (n:P) (k:KN β):Option β:=
 Oper.rec (fun dst op _ _ _ _=>dfrX dst (opX Pr op run σ h n fun v h n=>k (putD dst v σ) ds h n) rd σ ds h n k op) o
where dfrX (dst:Option Nat) (other:Option β) (rd:Option P) (σ:T V) (ds:List D) (h:T Blk) (n:P) (k:KN β) (op:Op):Option β:=match op with
 | .defer c=>match c.callee with
  | .value f=>on (evO f σ) fun f=>on (evOs c.args.toList σ) fun as=>V.onFn (fun f a b=>Option.rec (k (putD dst undefV σ) (.call f (appL a (appL as b))::ds) h n) (fun _=>none) rd) (fun _=>none) f
  | _=>none
 | _=>other
def isDefer (op:Op):Bool:=match op with
 | .defer _=>true
 | _=>false
def operX (ops:Array Oper) (o:Oper):Run→Option P→T V→List D→T Blk→P→KN β→Option β:=
 Oper.rec (fun dst op ty pos af g=>Option.rec (Bool.rec (fun run _ σ ds h n k=>opX Pr op run σ h n fun v h n=>k (putD dst v σ) ds h n) (operQ Pr ⟨dst,op,ty,pos,af,g⟩) (isDefer op))
  (fun jb=>Prod.rec (fun j b=>Option.rec (fun _ _ _ _ _ _ _=>none) (fun t=>fun run rd σ ds h n k=>on (T.get (pathOf t) σ)
   (V.onGuard (fun c=>Bool.rec (k (putD dst undefV σ) ds h n) (opX Pr op run σ h n fun v h n=>k (putD dst v σ) ds h n) (Bool.rec (bnot c) c b)) (k (putD dst undefV σ) ds h n))) ((ops[j]?).bind (·.dst))) jb) g) o
def opersX (ops:Array Oper) (l:List Oper):Run→Option P→T V→List D→T Blk→P→KN β→Option β:=
 List.rec (fun _ _ σ ds h n k=>k σ ds h n) (fun o _ ih run rd σ ds h n k=>operX Pr ops o run rd σ ds h n fun σ ds h n=>ih run rd σ ds h n k) l
/-! ### Regions that draw their order -/
def quietOp (op:Op):Bool:=match op with
 | .move _ | .assign _ | .pick .. | .build .. | .load .. | .nilCheck _ | .binOp .. | .unOp .. | .makeInterface .. | .makeFunc .. | .slice .. | .fieldAddr .. | .field .. | .indexAddr .. | .index .. | .lookup .. | .entry _ | .extract ..=>true
 | .convert s d _=>match convK Pr s d with
  | .int _ | .flt | .str _=>true
  | _=>false
 | .call c=>match c.callee with
  | .builtin .len | .builtin .cap | .builtin .min | .builtin .max=>true
  | _=>false
 | _=>false
def stillOp (op:Op):Bool:=match op with
 | .move _ | .assign _ | .pick .. | .build .. | .nilCheck _ | .binOp .. | .unOp .. | .makeInterface .. | .makeFunc .. | .fieldAddr .. | .field .. | .index .. | .extract ..=>true
 | _=>false
def freshOp (op:Op):Bool:=match op with
 | .alloc _ | .makeSlice .. | .makeMap _ none=>true
 | _=>false
def quietX (op:Op) (σ:T V) (h:T Blk):Option V:=opX Pr op (fun _ _ _=>none) σ h .z fun v _ _=>some v
def freshX (op:Op) (σ:T V) (n:P):Option (Blk × V):=opX Pr op (fun _ _ _=>none) σ .e n fun v h _=>on (T.get n h) fun B=>some (B,v)
def sameV (v:V):V→Bool:=V.rec (motive_1:=fun _=>V→Bool) (motive_2:=fun _=>List V→Bool)
 (fun k x u=>yes (V.onInt (fun j y=>some (Bool.rec false (eqI x y) (Nat.beq (kindN k) (kindN j)))) u)) (fun a u=>yes (V.onBool (fun b=>some (Bool.rec (bnot b) b a)) u)) (fun a u=>yes (V.onStr (fun b=>some (eqL a b)) u))
 (fun u=>yes (eqD.onP (some true) none u)) (fun b i j u=>yes (V.onPtr (fun b' i' j'=>some (Bool.rec false (Bool.rec false (Nat.beq j j') (Nat.beq i i')) (P.beq b b'))) u)) (fun u=>yes (V.onSl (some true) (fun _ _ _ _=>none) u))
 (fun b i l c u=>yes (V.onSl none (fun b' i' l' c'=>some (Bool.rec false (Bool.rec false (Bool.rec false (capEq c c') (Nat.beq l l')) (Nat.beq i i')) (P.beq b b'))) u))
 (fun f _ _ iha ihb u=>yes (V.onFn (fun g a b=>some (Bool.rec false (Bool.rec false (ihb b) (iha a)) (Nat.beq f g))) (fun _=>none) u)) (fun l u=>yes (V.onFn (fun _ _ _=>none) (fun l'=>some (P.beq l l')) u)) (fun u=>yes (eqD.onF (some true) none u)) (fun u=>yes (V.onMap (some true) (fun _=>none) u)) (fun b u=>yes (V.onMap none (fun b'=>some (P.beq b b')) u)) (fun u=>yes (eqD.onI (some true) none u)) (fun t _ ih u=>yes (V.onIface (fun t' x=>some (Bool.rec false (ih x) (Nat.beq t t'))) u))
 (fun _ ih u=>yes (V.onAgg (fun m=>some (ih m)) u)) (fun _ ih u=>yes (V.onTup (fun m=>some (ih m)) u)) (fun a u=>yes (V.onFlt (fun b=>some (Nat.beq a b)) u))
 (fun m=>List.rec true (fun _ _ _=>false) m) (fun _ _ ih ihl m=>List.rec false (fun u r _=>Bool.rec false (ihl r) (ih u)) m) v
where
 yes (o:Option Bool):Bool:=Option.rec false (fun b=>b) o
 capEq (c c':Option Nat):Bool:=Option.rec (Option.rec true (fun _=>false) c') (fun a=>Option.rec false (fun b=>Nat.beq a b) c') c
inductive PS where
 | q (i:Nat)
 | e (i:Nat) (chk:List Nat)
 | o (i:Nat)
 | f (i:Nat)
def mark (l:List Nat) (listed:Array Bool):Array Bool:=l.foldl (fun a i=>a.setIfInBounds i true) listed
def opAt (ops:Array Oper) (f:Op→Bool) (i:Nat):Bool:=match ops[i]? with
 | some o=>f o.op
 | none=>false
def freshAt (ops:Array Oper) (i:Nat):Bool:=match ops[i]? with
 | some ⟨some _,op,_,_,_,none⟩=>freshOp op
 | _=>false
def okP (ops:Array Oper):List PS→Array Bool→List Nat→List Nat→Bool
 | [],listed,opn,_=>opn.isEmpty && Region.ready .any ops listed == []
 | .q i::l,listed,opn,qs=>opAt ops (quietOp Pr) i && Region.free .any ops listed i && (Region.ready .any ops listed).contains i && okP ops l (listed.setIfInBounds i true) opn (if opAt ops stillOp i then qs else i::qs)
 | .e i chk::l,listed,opn,qs=>Region.ready .any ops (mark opn listed) == [i] && (Region.ready .any ops listed).contains i && (qs.all fun j=>j == i || reach ops j 5 i || chk.contains j) && okP ops l (listed.setIfInBounds i true) opn qs
 | .o i::l,listed,opn,qs=>freshAt ops i && Region.free .any ops listed i && (Region.ready .any ops listed).contains i && !(opn.contains i) && okP ops l listed (opn++[i]) qs
 | .f i::l,listed,opn,qs=>opn.contains i && Region.ready .any ops (mark (opn.filter (· != i)) listed) == [i] && okP ops l (listed.setIfInBounds i true) (opn.filter (· != i)) qs
abbrev Clm:=Nat × (T Blk→Option V) × V
abbrev Pnd:=Nat × (P→Option (Blk × V))
def chkAll (l:List Nat) (h:T Blk) (x:Option β) (cs:List Clm):Option β:=List.rec x (fun c _ ih=>Prod.rec (fun i qv=>Prod.rec (fun q v=>Bool.rec ih (on (q h) fun u=>Bool.rec none ih (sameV v u)) (memL i l)) qv) c) cs
def guardX (ops:Array Oper) (o:Oper) (σ:T V) (yes no:Option β):Option β:=Oper.rec (fun _ _ _ _ _ g=>Option.rec yes (fun jb=>Prod.rec (fun j b=>Option.rec none (fun t=>on (T.get (pathOf t) σ) (V.onGuard (fun c=>Bool.rec no yes (Bool.rec (bnot c) c b)) no)) ((ops[j]?).bind (·.dst))) jb) g) o
def takeP (i:Nat) (pd:List Pnd) (f:(P→Option (Blk × V))→List Pnd→Option β):Option β:=List.rec (motive:=fun _=>(List Pnd→List Pnd)→Option β) (fun _=>none) (fun p r ih back=>Prod.rec (fun j mk=>Bool.rec (ih fun m=>back (p::m)) (f mk (back r)) (Nat.beq j i)) p) pd fun m=>m
abbrev SX (β:Type):=List Clm→List Pnd→Run→T V→List D→T Blk→P→KN β→Option β
def stepsD (ops:Array Oper) (l:List PS):SX β:=List.rec (fun _ pd _ σ ds h n k=>List.rec (k σ ds h n) (fun _ _ _=>none) pd)
 (fun s _ ih=>PS.rec
  (fun i=>Option.rec (fun _ _ _ _ _ _ _ _=>none) (fun o=>fun cs pd run σ ds h n k=>guardX ops o σ (on (quietX Pr o.op σ h) fun v=>ih ((i,(fun h=>quietX Pr o.op σ h),v)::cs) pd run (putD o.dst v σ) ds h n k) (ih cs pd run (putD o.dst undefV σ) ds h n k)) (ops[i]?))
  (fun i chk=>Option.rec (fun _ _ _ _ _ _ _ _=>none) (fun o=>fun cs pd run σ ds h n k=>Bool.rec (guardX ops o σ (opX Pr o.op run σ h n fun v h n=>chkAll chk h (ih cs pd run (putD o.dst v σ) ds h n k) cs) (ih cs pd run (putD o.dst undefV σ) ds h n k)) none (isDefer o.op)) (ops[i]?))
  (fun i=>Option.rec (fun _ _ _ _ _ _ _ _=>none) (fun o=>fun cs pd run σ ds h n k=>Option.rec none (fun d=>on (T.get (pathOf d) σ) fun _=>on (freshX Pr o.op σ n) fun _=>ih cs ((i,fun n=>freshX Pr o.op σ n)::pd) run (T.put none (pathOf d) σ) ds h n k) o.dst) (ops[i]?))
  (fun i=>Option.rec (fun _ _ _ _ _ _ _ _=>none) (fun o=>fun cs pd run σ ds h n k=>Option.rec none (fun d=>takeP i pd fun mk rest=>on (mk n) fun Bv=>ih cs rest run (T.put (some Bv.2) (pathOf d) σ) ds (T.put (some Bv.1) n h) (P.succ n) k) o.dst) (ops[i]?)) s) l
/-! ### The same, by masks: numbers that the kernel's own arithmetic looks at -/
def forceN {γ:Type} (n:Nat) (k:Nat→γ):γ:=Nat.rec (k 0) (fun m _=>k (Nat.succ m)) n
def hasM (m i:Nat):Bool:=Bool.rec true false (Nat.beq (Nat.land m (Nat.shiftLeft 1 i)) 0)
def subM (p m:Nat):Bool:=Nat.beq (Nat.land p m) p
def disM (a b:Nat):Bool:=Nat.beq (Nat.land a b) 0
def tmpsM (l:List Nat):Nat:=List.rec 0 (fun t _ ih=>Nat.lor (Nat.shiftLeft 1 t) ih) l
def edgesM (l:List Edge):Nat:=List.rec 0 (fun e _ ih=>Bool.rec ih (Nat.lor (Nat.shiftLeft 1 e.on) ih) (Region.binds .any e)) l
def dstM (d:Option Nat):Nat:=Option.rec 0 (fun d=>Nat.shiftLeft 1 d) d
inductive Rw where
 | mk (p a d:Nat) (q s f:Bool)
def freshB (o:Oper):Bool:=match o with
 | ⟨some _,op,_,_,_,none⟩=>freshOp op
 | _=>false
def rowM (ops:Array Oper) (o:Oper):Rw:=forceN (edgesM o.after.toList) fun p=>forceN (tmpsM (o.looksAt ops)) fun a=>forceN (dstM o.dst) fun d=>.mk p a d (quietOp Pr o.op) (stillOp o.op) (freshB o)
def tabM (ops:Array Oper):List Rw:=List.rec [] (fun o _ ih=>rowM Pr ops o::ih) ops.toList
def onRow {γ:Type} (z:γ) (tab:List Rw) (i:Nat) (f:Nat→Nat→Nat→Bool→Bool→Bool→γ):γ:=Option.rec z (fun r=>Rw.rec f r) (nthL i tab)
def readyB (tab:List Rw) (L i:Nat):Bool:=onRow false tab i fun p _ _ _ _ _=>Bool.rec (subM p L) false (hasM L i)
def onlyB (L i:Nat) (tab:List Rw):Nat→Bool:=List.rec (fun _=>true) (fun r _ ih j=>Rw.rec (fun p _ _ _ _ _=>Bool.rec (Bool.rec (ih (Nat.succ j)) (Bool.rec false (ih (Nat.succ j)) (Nat.beq j i)) (subM p L)) (ih (Nat.succ j)) (hasM L j)) r) tab
def freeB (L i a d:Nat) (tab:List Rw):Nat→Bool:=List.rec (fun _=>true) (fun r _ ih j=>Rw.rec (fun p' a' d' _ _ _=>Bool.rec (Bool.rec (Bool.rec (Bool.rec false (Bool.rec false (Bool.rec false (ih (Nat.succ j)) (disM d' a)) (disM d d')) (disM d a')) (ih (Nat.succ j)) (hasM p' i)) (ih (Nat.succ j)) (hasM L j)) (ih (Nat.succ j)) (Nat.beq j i)) r) tab
def freeM (tab:List Rw) (L i:Nat):Bool:=onRow false tab i fun _ a d _ _ _=>freeB L i a d tab 0
def unionM (m:Nat) (tab:List Rw):Nat→Nat:=List.rec (fun _=>0) (fun r _ ih j=>Bool.rec (ih (Nat.succ j)) (Rw.rec (fun p _ _ _ _ _=>Nat.lor p (ih (Nat.succ j))) r) (hasM m j)) tab
def ancM (tab:List Rw) (i k:Nat):Nat:=Nat.rec (onRow 0 tab i fun p _ _ _ _ _=>p) (fun _ ih=>forceN ih fun m=>Nat.lor m (unionM m tab 0)) k
def allL (f:Nat→Bool) (l:List Nat):Bool:=List.rec true (fun a _ ih=>Bool.rec false ih (f a)) l
def dropN (i:Nat) (l:List Nat):List Nat:=l.filter (· != i)
def okF (tab:List Rw) (l:List PS):Nat→List Nat→List Nat→Bool:=List.rec (fun L opn _=>List.rec (Bool.rec false (onlyB L 1 tab 0) (onlyB L 0 tab 0)) (fun _ _ _=>false) opn)
 (fun s _ ih L opn qs=>PS.rec
  (fun i=>onRow false tab i fun _ _ _ q st _=>Bool.rec false (Bool.rec false (Bool.rec false (forceN (Nat.lor L (Nat.shiftLeft 1 i)) fun L'=>ih L' opn (Bool.rec (i::qs) qs st)) (readyB tab L i)) (freeM tab L i)) q)
  (fun i chk=>forceN (Nat.lor L (tmpsM opn)) fun L1=>Bool.rec false (Bool.rec false (Bool.rec false (forceN (ancM tab i 5) fun A=>Bool.rec false (forceN (Nat.lor L (Nat.shiftLeft 1 i)) fun L'=>ih L' opn qs) (allL (fun j=>Bool.rec (Bool.rec (hasM A j) true (memL j chk)) true (Nat.beq j i)) qs)) (readyB tab L i)) (readyB tab L1 i)) (onlyB L1 i tab 0))
  (fun i=>onRow false tab i fun _ _ _ _ _ f=>Bool.rec false (Bool.rec false (Bool.rec false (Bool.rec (ih L (opn++[i]) qs) false (memL i opn)) (readyB tab L i)) (freeM tab L i)) f)
  (fun i=>forceN (Nat.lor L (tmpsM (dropN i opn))) fun L1=>Bool.rec false (Bool.rec false (Bool.rec false (forceN (Nat.lor L (Nat.shiftLeft 1 i)) fun L'=>ih L' (dropN i opn) qs) (readyB tab L1 i)) (onlyB L1 i tab 0)) (memL i opn)) s) l
/-! how a plan is found: nothing hangs on it -/
def findRw (f:Nat→Rw→Bool) (tab:List Rw):Nat→Option Nat:=List.rec (fun _=>none) (fun r _ ih j=>Bool.rec (ih (Nat.succ j)) (some j) (f j r)) tab
def rdL (L:Nat) (tab:List Rw):Nat→List Nat:=List.rec (fun _=>[]) (fun r _ ih j=>Rw.rec (fun p _ _ _ _ _=>Bool.rec (Bool.rec (ih (Nat.succ j)) (j::ih (Nat.succ j)) (subM p L)) (ih (Nat.succ j)) (hasM L j)) r) tab
def planF (tab:List Rw) (fuel:Nat):Nat→List Nat→List Nat→List PS:=Nat.rec (fun _ _ _=>[]) (fun _ ih L opn qs=>
 Option.rec (forceN (Nat.lor L (tmpsM opn)) fun L1=>List.rec (List.rec [] (fun d r _=>.f d::forceN (Nat.lor L (Nat.shiftLeft 1 d)) fun L'=>ih L' r qs) opn)
  (fun i rest _=>List.rec (Bool.rec
   (Option.rec [] (fun d=>.f d::forceN (Nat.lor L (Nat.shiftLeft 1 d)) fun L'=>ih L' (dropN d opn) qs) (onRow none tab i fun p _ _ _ _ _=>opn.find? fun d=>hasM p d))
   (.e i (forceN (ancM tab i 5) fun A=>qs.filter fun l=>bnot (Bool.rec (hasM A l) true (Nat.beq l i)))::forceN (Nat.lor L (Nat.shiftLeft 1 i)) fun L'=>ih L' opn qs) (readyB tab L i))
   (fun _ _ _=>Option.rec [] (fun d=>.o d::ih L (opn++[d]) qs) ((i::rest).find? fun d=>onRow false tab d fun _ _ _ _ _ f=>Bool.rec false (Bool.rec false (freeM tab L d) (readyB tab L d)) f)) rest) (rdL L1 tab 0))
  (fun i=>.q i::forceN (Nat.lor L (Nat.shiftLeft 1 i)) fun L'=>ih L' opn (onRow qs tab i fun _ _ _ _ st _=>Bool.rec (i::qs) qs st))
  (findRw (fun j r=>Rw.rec (fun p a d q _ _=>Bool.rec false (Bool.rec (Bool.rec false (freeB L j a d tab 0) (subM p L)) false (hasM L j)) q) r) tab 0)) fuel
def planN (tab:List Rw) (fuel:Nat):Nat→List Nat→List PS:=Nat.rec (fun _ _=>[]) (fun _ ih L qs=>
 Option.rec (List.rec [] (fun i _ _=>.e i (forceN (ancM tab i 5) fun A=>qs.filter fun l=>bnot (Bool.rec (hasM A l) true (Nat.beq l i)))::forceN (Nat.lor L (Nat.shiftLeft 1 i)) fun L'=>ih L' qs) (rdL L tab 0))
  (fun i=>.q i::forceN (Nat.lor L (Nat.shiftLeft 1 i)) fun L'=>ih L' (onRow qs tab i fun _ _ _ _ st _=>Bool.rec (i::qs) qs st))
  (findRw (fun j r=>Row1 L j r) tab 0)) fuel
where Row1 (L j:Nat) (r:Rw):Bool:=Rw.rec (fun p _ _ q _ _=>Bool.rec false (Bool.rec (subM p L) false (hasM L j)) q) r
def planOf (ops:Array Oper):List PS:=Bool.rec (planF (tabM Pr ops) (ops.size+ops.size+1) 0 [] []) (planN (tabM Pr ops) (ops.size+1) 0 []) (okF (tabM Pr ops) (planN (tabM Pr ops) (ops.size+1) 0 []) 0 [] [])
def notSel (op:Op):Bool:=match op with
 | .select ..=>false
 | _=>true
def noSelB (l:List Oper):Bool:=List.rec true (fun o _ ih=>Bool.rec false ih (notSel o.op)) l
theorem noSelB_eq (ops:Array Oper):noSelB ops.toList=Region.noSelect ops:=by
 have h:Region.noSelect ops=ops.all fun o=>notSel o.op:=by
  unfold Region.noSelect
  congr 1
 rw [h,← Array.all_toList]
 induction ops.toList with
 | nil=>rfl
 | cons o l ih=>
  rw [List.all_cons,← ih]
  show (Bool.rec false (noSelB l) (notSel o.op):Bool)=_
  cases notSel o.op <;> rfl
def cost (l:List PS):Nat:=match l with
 | []=>0
 | .f _::l=>cost l
 | _::l=>cost l+1
def fitsD (ops:Array Oper):Bool:=noSelB ops.toList && Nat.ble (cost (planOf Pr ops)) ops.size && okF (tabM Pr ops) (planOf Pr ops) 0 [] []
def regX (ops:Array Oper) (draw:Bool):Run→Option P→T V→List D→T Blk→P→KN β→Option β:=
 Bool.rec (opersX Pr ops ops.toList) (Bool.rec (fun _ _ _ _ _ _ _=>none) (fun run rd σ ds h n k=>Option.rec (stepsD Pr ops (planOf Pr ops) [] [] run σ ds h n k) (fun _=>none) rd) (fitsD Pr ops)) draw
def loopR (ih:EX β) (run:Run) (rd:Option P) (kx:X→KN β) (j:Nat):KN β:=Nat.rec (motive:=fun _=>KN β) (fun _ _ _ _=>none) (fun _ again σ ds h n=>ih run rd σ ds h n again kx) j
def loopX (ih:EX β):EX β:=fun run rd σ ds h n _ kx=>loopR ih run rd kx 1000000 σ ds h n
def blockX (id:Nat) (ih:EX β):EX β:=fun run rd σ ds h n kn kx=>ih run rd σ ds h n kn (fun x=>X.rec (fun i=>Bool.rec (kx (.exit i)) kn (Nat.beq i id)) (fun l=>kx (.goto l)) (kx .ret) x)
def scopeG (again:EX β→KN β) (fr:Nat→Option (EX β)) (kx:X→KN β) (x:X):KN β:=X.rec (motive:=fun _=>KN β) (fun i=>kx (.exit i)) (fun l σ ds h n=>Option.rec (kx (.goto l) σ ds h n) (fun g=>again g σ ds h n) (fr l)) (kx .ret) x
def scopeR (run:Run) (rd:Option P) (kn:KN β) (kx:X→KN β) (fr:Nat→Option (EX β)) (j:Nat):EX β→KN β:=
 Nat.rec (motive:=fun _=>EX β→KN β) (fun _ _ _ _ _=>none) (fun _ again g σ ds h n=>g run rd σ ds h n kn (scopeG again fr kx)) j
def scopeX (ih:EX β) (fr:Nat→Option (EX β)):EX β:=fun run rd σ ds h n kn kx=>scopeR run rd kn kx fr 100000 ih σ ds h n
def enters (f:FuncId):Option (Func × Code):=match Pr.funcs[f]? with
 | some fn=>match fn.body with
  | some c=>if fn.name= "runtime.NumGoroutine" then none else some (fn,c)
  | none=>none
 | none=>none
def rangeX (m:Nat) (g:Operand) (ps:List Nat) (asg body:Code):EX β:=fun run rd σ ds h n kn kx=>on (evO g σ) fun g=>
 let go (d:P) (ds:List D) (h:T Blk) (l:P):Option β:=V.onFn (fun f a b=>on (enters Pr f) fun _=>on (run (.call f (appL a (.yield l::b))) (T.put (some (.loop .ready none σ m ps asg body d)) l h) (P.succ l)) fun r=>Prod.rec (fun _ hn=>Prod.rec (fun h n=>
  on (T.get l h) (Blk.onLoop fun st pend σ' m' ps' a' b' d'=>notBusy st (Option.rec (kn σ ds (T.put (some (.loop .exhausted pend σ' m' ps' a' b' d')) l h) n) (fun x=>kx x σ ds (T.put (some (.loop .exhausted pend σ' m' ps' a' b' d')) l h) n) pend))) hn) r) (fun _=>none) g
 Option.rec (go n (.mark n::ds) (T.put (some (.dfr true)) n h) (P.succ n)) (fun l=>on (T.get l h) (Blk.onLoop fun _ _ _ _ _ _ _ d=>go d ds h n)) rd
where notBusy (st:LoopState) (x:Option β):Option β:=LoopState.rec x none x x st
def evB {β:Type} (x:Operand) (σ:T V) (f:Bool→Option β):Option β:=on (evO x σ) (V.onBool f)
def ex2 (m:Nat) (c:Code):EX β × (Nat→Option (EX β)):=Code.rec (motive:=fun _=>EX β × (Nat→Option (EX β)))
 (fun _ _ σ ds h n kn _=>kn σ ds h n,fun _=>none)
 (fun _ ops draw=>(fun run rd σ ds h n kn _=>regX Pr ops draw run rd σ ds h n kn,fun _=>none))
 (fun _ _ a b=>(fun run rd σ ds h n kn kx=>a.1 run rd σ ds h n (fun σ ds h n=>b.1 run rd σ ds h n kn kx) kx,
  fun l=>Option.rec (b.2 l) (fun g=>some fun run rd σ ds h n kn kx=>g run rd σ ds h n (fun σ ds h n=>b.1 run rd σ ds h n kn kx) kx) (a.2 l)))
 (fun x _ _ a b=>(fun run rd σ ds h n kn kx=>evB x σ fun t=>Bool.rec (b.1 run rd σ ds h n kn kx) (a.1 run rd σ ds h n kn kx) t,fun _=>none))
 (fun id _ a=>(blockX id a.1,fun _=>none))
 (fun _ a=>(loopX a.1,fun _=>none))
 (fun g ps asg body _ _=>(rangeX Pr m g ps.toList asg body,fun _=>none))
 (fun id=>(fun _ _ σ ds h n _ kx=>kx (.exit id) σ ds h n,fun _=>none))
 (fun _ a=>(scopeX a.1 a.2,fun _=>none))
 (fun l=>(fun _ _ σ ds h n kn _=>kn σ ds h n,fun l'=>Bool.rec none (some fun _ _ σ ds h n kn _=>kn σ ds h n) (Nat.beq l l')))
 (fun l=>(fun _ _ σ ds h n _ kx=>kx (.goto l) σ ds h n,fun _=>none))
 (fun _ _ σ ds h n _ kx=>kx .ret σ ds h n,fun _=>none)
 (fun _=>(fun _ _ _ _ _ _ _ _=>none,fun _=>none)) c
def exec (m:Nat) (c:Code):EX β:=(ex2 Pr m c).1
end
section
variable (Pr:Program)
def putArgs (l:List V):P→T V→T V:=List.rec (fun _ σ=>σ) (fun v _ ih p σ=>ih (P.succ p) (T.set v p σ)) l
def zipPut (ts:List Nat):List V→T V→T V:=List.rec (fun _ σ=>σ) (fun t _ ih l σ=>List.rec σ (fun v r _=>ih r (T.set v (pathOf t) σ)) l) ts
def resX (rs:List ResultVar):T V→T Blk→Option (List V):=List.rec (fun _ _=>some []) (fun r _ ih=>ResultVar.rec (fun t σ h=>on (T.get (pathOf t) σ) fun v=>on (ih σ h) fun l=>some (v::l))
 (fun a t=>Option.rec (fun _ _=>none) (fun g σ h=>on (T.get (pathOf a) σ) fun p=>on (loadQ g p h) fun v=>on (ih σ h) fun l=>some (v::l)) (aggT Pr t)) r) rs
def oneR (l:List V):V:=List.rec (.tup l) (fun v r _=>List.rec v (fun _ _ _=>.tup l) r) l
def putOff (run:Run) (ds:List D):T Blk→P→(T Blk→P→Option Res)→Option Res:=List.rec (fun h n k=>k h n) (fun d _ ih h n k=>
 D.rec (fun f as=>on (run (.dcall f as) h n) fun r=>ih r.2.1 r.2.2 k) (fun b=>on (T.get b h) (Blk.onDfr fun live=>Bool.rec none (ih (T.put (some (.dfr false)) b h) n k) live)) d) ds
def leaveX (fn:Func) (run:Run):KN Res:=fun σ ds h n=>putOff run ds h n fun h n=>on (resX Pr fn.results.toList σ h) fun l=>some (oneR l,h,n)
def leave0 (fn:Func):KN Res:=fun σ ds h n=>List.rec (on (resX Pr fn.results.toList σ h) fun l=>some (oneR l,h,n)) (fun _ _ _=>none) ds
def extX (_:String) (_:List V) (_:T Blk) (_:P):Option Res:=none
def onlyRet {β:Type} (k:KN β) (x:X):KN β:=X.rec (fun _ _ _ _ _=>none) (fun _ _ _ _ _=>none) k x
def bodyX {β:Type} [Jn β] (fn:Func) (c:Code) (k:Run→KN β):Run→List V→T Blk→P→Option β:=fun run as h n=>
 Bool.rec none (exec Pr fn.ntmps c run none (putArgs as .z (initT fn.ntmps)) [] h n (k run) (onlyRet (k run))) (Nat.ble (lenL as) fn.ntmps)
/-! A call within which a map's order is drawn: the first way's result, less what is not reached; then every way is held against it. -/
def sameRows (a:List (List V)):List (List V)→Bool:=List.rec (fun b=>List.rec true (fun _ _ _=>false) b) (fun r _ ih b=>List.rec false (fun r' b' _=>Bool.rec false (ih b') (sameV (.tup r) (.tup r'))) b) a
def sameEnts (a:List Ent):List Ent→Bool:=List.rec (fun b=>List.rec true (fun _ _ _=>false) b) (fun e _ ih b=>List.rec false (fun e' b' _=>Bool.rec false (Bool.rec false (Bool.rec false (ih b') (Nat.beq e.2.2 e'.2.2)) (sameV e.2.1 e'.2.1)) (sameV e.1 e'.1)) b) a
def sameOP (a b:Option P):Bool:=Option.rec (Option.rec true (fun _=>false) b) (fun p=>Option.rec false (fun q=>P.beq p q) b) a
def sameBlk (a b:Blk):Bool:=Blk.rec
 (fun t k op rs=>Blk.rec (fun t' k' op' rs'=>Bool.rec false (Bool.rec false (Bool.rec false (sameRows rs rs') (Bool.rec (bnot op') op' op)) (Nat.beq k k')) (Nat.beq t t')) (fun _ _=>false) (fun _ _=>false) (fun _ _ _ _=>false) (fun _ _ _ _ _ _ _ _=>false) (fun _=>false) (fun _=>false) b)
 (fun es c=>Blk.rec (fun _ _ _ _=>false) (fun es' c'=>Bool.rec false (sameEnts es es') (Nat.beq c c')) (fun _ _=>false) (fun _ _ _ _=>false) (fun _ _ _ _ _ _ _ _=>false) (fun _=>false) (fun _=>false) b)
 (fun l p=>Blk.rec (fun _ _ _ _=>false) (fun _ _=>false) (fun l' p'=>Bool.rec false (eqL l l') (Nat.beq p p')) (fun _ _ _ _=>false) (fun _ _ _ _ _ _ _ _=>false) (fun _=>false) (fun _=>false) b)
 (fun m si se la=>Blk.rec (fun _ _ _ _=>false) (fun _ _=>false) (fun _ _=>false) (fun m' si' se' la'=>Bool.rec false (Bool.rec false (Bool.rec false (eqL se se') (Nat.beq la la')) (Nat.beq si si')) (sameOP m m')) (fun _ _ _ _ _ _ _ _=>false) (fun _=>false) (fun _=>false) b)
 (fun _ _ _ _ _ _ _ _=>false)
 (fun l=>Blk.rec (fun _ _ _ _=>false) (fun _ _=>false) (fun _ _=>false) (fun _ _ _ _=>false) (fun _ _ _ _ _ _ _ _=>false) (fun l'=>Bool.rec (bnot l') l' l) (fun _=>false) b)
 (fun l=>Blk.rec (fun _ _ _ _=>false) (fun _ _=>false) (fun _ _=>false) (fun _ _ _ _=>false) (fun _ _ _ _ _ _ _ _=>false) (fun _=>false) (fun l'=>eqL l l') b) a
def subT (a:T Blk):T Blk→Bool:=T.rec (fun _=>true) (fun v _ _ ihl ihr t=>T.rec (Bool.rec false (Bool.rec false (ihr .e) (ihl .e)) (Option.rec true (fun _=>false) v))
 (fun v' l' r' _ _=>Bool.rec false (Bool.rec false (ihr r') (ihl l')) (Option.rec true (fun B=>Option.rec false (fun B'=>sameBlk B B') v') v)) t) a
def leRes (a b:Res):Bool:=Bool.rec false (Bool.rec false (subT a.2.1 b.2.1) (P.beq a.2.2 b.2.2)) (sameV a.1 b.1)
def keepT (h0:T Blk):T Blk→T Blk:=T.rec (fun _=>.e) (fun v _ _ ihl ihr t=>T.rec .e (fun v' l' r' _ _=>.n (Option.rec none (fun _=>Option.rec none (fun B=>Blk.rec (fun t k o rs=>some (.rows t k o rs)) (fun es c=>some (.map es c)) (fun l p=>some (.strIter l p)) (fun m s e a=>some (.mapIter m s e a)) (fun _ _ _ _ _ _ _ _=>none) (fun l=>some (.dfr l)) (fun l=>some (.fz l)) B) v') v) (ihl l') (ihr r')) t) h0
def ptrsV (v:V):List P→List P:=V.rec (motive_1:=fun _=>List P→List P) (motive_2:=fun _=>List P→List P)
 (fun _ _ a=>a) (fun _ a=>a) (fun _ a=>a) (fun a=>a) (fun b _ _ a=>b::a) (fun a=>a) (fun b _ _ _ a=>b::a) (fun _ _ _ iha ihb a=>iha (ihb a)) (fun l a=>l::a) (fun a=>a) (fun a=>a) (fun b a=>b::a) (fun a=>a) (fun _ _ ih a=>ih a)
 (fun _ ih a=>ih a) (fun _ ih a=>ih a) (fun _ a=>a) (fun a=>a) (fun _ _ ih ihl a=>ih (ihl a)) v
def ptrsB (B:Blk) (a:List P):List P:=Blk.rec (fun _ _ _ rs=>List.rec a (fun r _ ih=>ptrsV (.tup r) ih) rs) (fun es _=>List.rec a (fun e _ ih=>ptrsV e.1 (ptrsV e.2.1 ih)) es) (fun _ _=>a) (fun _ _ _ _=>a) (fun _ _ _ _ _ _ _ _=>a) (fun _=>a) (fun _=>a) B
def noLoop (B:Blk):Option Blk:=Blk.rec (fun t k o rs=>some (.rows t k o rs)) (fun es c=>some (.map es c)) (fun l p=>some (.strIter l p)) (fun m s e a=>some (.mapIter m s e a)) (fun _ _ _ _ _ _ _ _=>none) (fun l=>some (.dfr l)) (fun l=>some (.fz l)) B
def reachT (h:T Blk) (fuel:Nat):List P→T Blk→T Blk:=Nat.rec (fun _ t=>t) (fun _ ih l t=>List.rec t (fun p r _=>Option.rec (Option.rec (ih r t) (fun B=>ih (ptrsB B r) (T.put (some B) p t)) (on (T.get p h) noLoop)) (fun _=>ih r t) (T.get p t)) l) fuel
def rootsT (t:T Blk):List P→List P:=T.rec (fun a=>a) (fun v _ _ ihl ihr a=>Option.rec (ihl (ihr a)) (fun B=>ptrsB B (ihl (ihr a))) v) t
def pruneR (b:Bool) (h0:T Blk) (r:Res):Res:=Bool.rec (r.1,reachT r.2.1 100000 (ptrsV r.1 []) (keepT h0 r.2.1),r.2.2) (r.1,reachT r.2.1 1000000 (rootsT (keepT h0 r.2.1) (ptrsV r.1 [])) (keepT h0 r.2.1),r.2.2) b
def candK (fn:Func) (run:Run):KN Cand:=fun σ ds h n=>on (leaveX Pr fn run σ ds h n) fun r=>some (.mk r)
def chkK (exp:Res) (fn:Func) (run:Run):KN Unit:=fun σ ds h n=>on (leaveX Pr fn run σ ds h n) fun r=>Bool.rec none (some ()) (leRes exp r)
def callN (b:Bool) (f:FuncId) (run:Run) (as:List V) (h:T Blk) (n:P):Option Res:=Option.rec none (fun fc=>on (bodyX Pr fc.1 fc.2 (candK Pr fc.1) run as h n) fun c=>Cand.rec (fun r=>on (bodyX Pr fc.1 fc.2 (chkK Pr (pruneR b h r) fc.1) run as h n) fun _=>some (pruneR b h r)) c) (enters Pr f)
inductive Hk where
 | fn (g:List V→T Blk→P→Option Res)
 | nd (b:Bool)
 | dn (k:Nat)
 | pf (g:List V→T Blk→P→Option Res)
abbrev Hooks:=FuncId→Option Hk
def callB (f:FuncId):Run→List V→T Blk→P→Option Res:=Option.rec (Option.rec (fun _ _ _ _=>none) (fun fn _ as h n=>extX fn.name as h n) Pr.funcs[f]?) (fun fc=>bodyX Pr fc.1 fc.2 (leaveX Pr fc.1)) (enters Pr f)
def callF (hk:Hooks) (f:FuncId):Run→List V→T Blk→P→Option Res:=Option.rec (callB Pr f) (fun x=>Hk.rec (fun g _ as h n=>g as h n) (fun b=>callN Pr b f) (fun _ _ _ _ _=>none) (fun g run as h n=>Option.rec (callB Pr f run as h n) some (g as h n)) x) (hk f)
def dcallB (f:FuncId):Run→List V→T Blk→P→Option Res:=Option.rec (fun _ _ _ _=>none) (fun fc=>bodyX Pr fc.1 fc.2 (fun _=>leave0 Pr fc.1)) (enters Pr f)
def idleH (k:Nat):Run→List V→T Blk→P→Option Res:=fun _ as h n=>Bool.rec none (some (.tup [],h,n)) (Nat.beq (lenL as) k)
def dcallF (hk:Hooks) (f:FuncId):Run→List V→T Blk→P→Option Res:=Option.rec (dcallB Pr f) (fun x=>Hk.rec (fun _=>dcallB Pr f) (fun _=>dcallB Pr f) idleH (fun _=>dcallB Pr f) x) (hk f)
def endRound (l:P) (j:Option X) (h:T Blk) (n:P):Option Res:=on (T.get l h) (Blk.onLoop fun _ _ σ m ps a b d=>
 some (.bool (Option.rec true (fun _=>false) j),T.put (some (.loop (Option.rec .ready (fun _=>.done) j) j σ m ps a b d)) l h,n))
def roundF (run:Run) (l:P) (as:List V) (h:T Blk) (n:P):Option Res:=on (T.get l h) (Blk.onLoop fun _ _ σ m ps asg body _=>Bool.rec none
 (exec Pr m asg run (some l) (zipPut ps as σ) [] h n (fun σ ds h n=>on (T.get l h) (Blk.onLoop fun st pend σ0 m0 ps0 a0 b0 d0=>LoopState.rec
  (exec Pr m body run (some l) σ ds (T.put (some (.loop .busy pend σ0 m0 ps0 a0 b0 d0)) l h) n (fun _ _ h n=>endRound l none h n) (fun x _ _ h n=>endRound l (some x) h n)) none none none st)) (fun _ _ _ _ _=>none)) (Nat.beq (lenL as) (lenL ps)))
def runX (hk:Hooks) (d:Nat):Run:=Nat.rec (motive:=fun _=>Run) (fun _ _ _=>none) (fun _ ih t=>Task.rec (fun f as=>callF Pr hk f ih as) (fun f as=>dcallF Pr hk f ih as) (fun l as=>roundF Pr ih l as) t) d
end
end
end Go.Lk
namespace Go.Lk
open Go.Eng Go.RowKit
noncomputable section
abbrev Hook:=List V→T Blk→P→Option Res
def lockH (a b:Int):Hook:=fun as h n=>List.rec none (fun p r _=>List.rec (V.onPtr (fun l i j=>on (cell1 l i j h) (V.onInt fun k x=>Bool.rec none (Bool.rec none (on (writeN [.int .i32 b] l i j h) fun h'=>some (.tup [],h',n)) (eqI x a)) (Nat.beq (kindN k) 2))) p) (fun _ _ _=>none) r) as
def copyCheckH (tB:Nat):Hook:=fun as h n=>List.rec none (fun p r _=>List.rec (V.onPtr (fun l i j=>Bool.rec none (Bool.rec none (on (T.get l h) (Blk.onRows fun t k op rs=>Bool.rec none (Bool.rec none (Bool.rec (Bool.rec none (on (cell1 l 0 0 h) fun q=>on (eqD.onP (some true) (some false) q) fun e=>
 Bool.rec (V.onPtr (fun l' i' j'=>Bool.rec none (Bool.rec none (Bool.rec none (some (.tup [],h,n)) (Nat.beq j' 0)) (Nat.beq i' 0)) (P.beq l l')) q) (on (writeN [p] l 0 0 h) fun h'=>some (.tup [],h',n)) e) (Nat.beq (lenL rs) 1)) none op) (Nat.beq k 2)) (Nat.beq t tB))) (Nat.beq j 0)) (Nat.beq i 0)) p) (fun _ _ _=>none) r) as
def builtH (tE:Nat):Hook:=fun as h n=>List.rec none (fun p r _=>List.rec (V.onPtr (fun l i j=>on (cell1 l i (Nat.succ j) h) (V.onSl (some (.str [],h,n)) fun b o len _=>Bool.rec none (Bool.rec none (on (T.get b h) (Blk.onRows fun t k _ rs=>Bool.rec none (Bool.rec none (on (takeL len (dropL o rs)) fun m=>on (bytesR m) fun x=>some (.str x,T.put none b h,n)) (Nat.beq k 1)) (Nat.beq t tE))) (Nat.ble len 1000000)) (Nat.blt 0 len))) p) (fun _ _ _=>none) r) as
def wholeH (m:Nat):Hook:=fun as h n=>List.rec none (fun p r _=>List.rec (V.onSl (some (.agg (repL (.int .i64 0) m),h,n)) (fun b o len _=>Bool.rec none (on (T.get b h) (Blk.onRows fun _ k _ rs=>Bool.rec none (on (takeL len (dropL o rs)) fun l=>Bool.rec none (some (.agg (appL (flatL l) (repL (.int .i64 0) (Nat.sub m len))),h,n)) (onesV (flatL l))) (Nat.beq k 1))) (Nat.ble len m)) p) (fun _ _ _=>none) r) as
def cmpI (a b:List Nat):Int:=Bool.rec (Bool.rec (.ofNat 1) (.ofNat 0) (eqL a b)) (.negSucc 0) (ltL a b)
def cmpH:Hook:=fun as h n=>List.rec none (fun p r _=>List.rec none (fun q r' _=>List.rec (V.onStr (fun a=>V.onStr (fun b=>some (.int .i64 (cmpI a b),h,n)) q) p) (fun _ _ _=>none) r') r) as
def hookList (l:List (Nat × Hk)) (f:FuncId):Option Hk:=List.rec none (fun x _ ih=>Bool.rec ih (some x.2) (Nat.beq x.1 f)) l
end
end Go.Lk
