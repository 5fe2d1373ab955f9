/- The walk's engine: frames as functions, one lemma an operation, regions that draw their order by a schedule. Over any program. -/
import Derived.WalkKit
import Derived.WalkSpells
import Derived.WalkLawsBesides
import Derived.Deep.RegionHeld3
import Derived.OrdersHeld
import Derived.OrdersIn
import Derived.RangeFuncLeaves
import Derived.TacticsIn
import Derived.Test.YtljfgmedbjlkaaaGreatEl
namespace Go.Eng
open Go.RowKit
variable {rr:Option Nat}
/-! ### Inside a round of a range over a function, or not -/
def Fen:Option Nat→Fence
 | none=>Fence.wide
 | some l=>Fence.wide.inRound l
theorem Fen_fn (r:Option Nat) (f:FuncId):(Fen r).fn f:=by cases r <;> trivial
theorem Fen_depth (r:Option Nat):(Fen r).depth.isSome=true→1≤0:=by cases r <;> intro h <;> cases h
theorem callsIn_fen {P:Program} {f:FuncId} {args:Array Value} {w:World} {R:Ending→World→Prop} (h:Calls P f args w R):CallsIn (Fen rr) 0 P f args w R:=by
 have h0:CallsIn Fence.wide 0 P f args w R:=callsIn_wide.2 h
 cases rr with
 | none=>exact h0
 | some l=>exact h0
theorem rowsIn_fen {P:Program} {f:String} {args:Array Value} {w:World} {R:Value→World→Prop} (h:Rows P f args w R):RowsIn (Fen rr) 0 P f args w R:=by
 have h0:RowsIn Fence.wide 0 P f args w R:=fun c cs _=>let ⟨v,w',r,s⟩:=h c cs;⟨v,w',r,stepsIn_wide.2 s⟩
 cases rr with
 | none=>exact h0
 | some l=>exact h0
/-- code, walked in a round or not -/
abbrev _root_.Go.Code.wq (rr:Option Nat) (P:Program) (c:Code) (Q:Exit→Act→World→Prop) (a:Act) (w:World):Prop:=c.wpIn (Fen rr) 0 P Q a w
theorem wq_none {P:Program} {c:Code} {Q:Exit→Act→World→Prop} {a:Act} {w:World}:c.wq none P Q a w↔c.wp P Q a w:=wpIn_wide (n:=0)
theorem run_fen {P:Program} {ρ:Operand→Value} {o:Oper} {w w':World} {x:Next} (h:(execOp ρ o).run P w= .ok x w') (hx:∀ d,x≠.defer d):(o.semAt (Fen rr).round ρ).run P w= .ok x w':=by
 cases rr with
 | none=>exact h
 | some l=>
  obtain ⟨dst,op,ty,pos,af,g⟩:=o
  cases op <;> try exact h
  rename_i c
  exfalso
  simp only [execOp,Sem.run_bind] at h
  cases hr:(resolve ρ c ty).run P w with
  | ok d w1=>rw [hr] at h;simp only [Result.andThen_ok,Sem.run_pure] at h;cases h;exact hx _ rfl
  | halt e w1=>rw [hr] at h;simp [Result.andThen] at h
/-! ### Frames -/
def mk (n:Nat) (σ:Nat→Value):Array Value:=Array.ofFn (fun i:Fin n=>σ i.val)
def upd (σ:Nat→Value) (d:Nat) (v:Value):Nat→Value:=fun t=>bif Nat.beq t d then v else σ t
def F (n:Nat) (σ:Nat→Value) (ds:List Deferred):Act:={ tmps:=mk n σ,defers:=ds }
def ev (n:Nat) (σ:Nat→Value):Operand→Value
 | .tmp t=>bif Nat.blt t n then σ t else undef
 | .const v=>v
 | .global g=>.pointer (some ⟨g,0,none⟩)
 | .func f=>.func (.func f) #[] #[]
theorem mk_get (n:Nat) (σ:Nat→Value) (t:Nat):(mk n σ)[t]?=if t<n then some (σ t) else none:=by
 unfold mk;rw [Array.getElem?_ofFn];split <;> simp_all
theorem mk_getD (n:Nat) (σ:Nat→Value) (t:Nat):(mk n σ).getD t undef=bif Nat.blt t n then σ t else undef:=by
 rw [Array.getD_eq_getD_getElem?,mk_get]
 by_cases h:t<n
 ·have:Nat.blt t n=true:=by simpa [Nat.blt_eq] using h
  simp [h,this]
 ·have:Nat.blt t n=false:=by cases hb:Nat.blt t n;rfl;rw [Nat.blt_eq] at hb;exact absurd hb h
  simp [h,this]
theorem F_eval (n:Nat) (σ:Nat→Value) (ds:List Deferred):(F n σ ds).eval=ev n σ:=by
 funext x
 cases x with
 | tmp t=>exact mk_getD n σ t
 | const v=>rfl
 | global g=>rfl
 | func f=>rfl
theorem mk_set (n:Nat) (σ:Nat→Value) (d:Nat) (v:Value):(mk n σ).setIfInBounds d v=mk n (upd σ d v):=by
 apply Array.ext_getElem?
 intro t
 rw [Array.getElem?_setIfInBounds,mk_get,mk_get]
 have hs:(mk n σ).size=n:=by simp [mk]
 by_cases h:d=t
 ·subst h
  have:Nat.beq d d=true:=by simp
  simp only [if_true,hs,upd,this,cond_true]
 ·have:Nat.beq t d=false:=by cases hb:Nat.beq t d;rfl;exact absurd (Nat.eq_of_beq_eq_true hb).symm h
  simp only [h,if_false,upd,this,cond_false]
theorem F_put (n:Nat) (σ:Nat→Value) (ds:List Deferred) (d:Nat) (v:Value):(F n σ ds).put (some d) v=F n (upd σ d v) ds:=by
 simp only [F,Act.put,mk_set]
theorem F_put_none (n:Nat) (σ:Nat→Value) (ds:List Deferred) (v:Value):(F n σ ds).put none v=F n σ ds:=rfl
theorem upd_self {σ:Nat→Value} {d:Nat} {v:Value} (h:σ d=v):upd σ d v=σ:=by
 funext t
 unfold upd
 cases hb:Nat.beq t d
 ·rfl
 ·have:=Nat.eq_of_beq_eq_true hb;subst this;simp [h]
/-! ### Entering, leaving -/
def init (args:List Value):Nat→Value:=fun t=>args.getD t undef
theorem enter {P:Program} {f:FuncId} {fn:Func} {c:Code} {args:List Value} {w:World} {R:Ending→World→Prop}
  (hf:P.funcs[f]?=some fn) (hb:fn.body=some c) (n:Nat) (hn:fn.ntmps=n) (hl0:Nat.ble args.length n=true)
  (h:c.wq none P (bodyPost P fn R) (F n (init args) []) w):Calls P f args.toArray w R:=by
 have hl:=Nat.le_of_ble_eq_true hl0
 replace h:=wq_none.1 h
 refine calls_of_wp hf hb ?_
 have:(args.toArray++Array.replicate (fn.ntmps-args.toArray.size) undef)=mk n (init args):=by
  subst hn
  apply Array.ext_getElem?
  intro t
  rw [mk_get,Array.getElem?_append]
  simp only [List.size_toArray,List.getElem?_toArray,init,List.getD_eq_getElem?_getD]
  by_cases h1:t<args.length
  ·simp [h1,Nat.lt_of_lt_of_le h1 hl]
  ·simp only [h1,if_false,Array.getElem?_replicate]
   by_cases h2:t<fn.ntmps
   ·have:t-args.length<fn.ntmps-args.length:=by omega
    simp [h2,this,List.getElem?_eq_none (Nat.le_of_not_lt h1)]
   ·have:¬ t-args.length<fn.ntmps-args.length:=by omega
    simp [h2,this]
 rw [this]
 exact h
/-- a function's end: one result in a slot -/
theorem leave1 {P:Program} {fn:Func} {R:Ending→World→Prop} {n:Nat} {σ:Nat→Value} {w:World} {t:Nat} {v:Value} (hr:fn.results=#[.tmp t]) (ht:ev n σ (.tmp t)=v)
  (h:R (.returned v) w):bodyPost P fn R .ret (F n σ []) w:=by
 refine ⟨rfl,v,?_,h⟩
 rw [results_tmp hr]
 have:(F n σ []).tmps.getD t undef=v:=by rw [← ht,← F_eval n σ []];rfl
 rw [this]
theorem leave0 {P:Program} {fn:Func} {R:Ending→World→Prop} {n:Nat} {σ:Nat→Value} {w:World} (hr:fn.results=#[])
  (h:R (.returned (.tuple #[])) w):bodyPost P fn R .ret (F n σ []) w:=⟨rfl,_,results_none hr _ _ _,h⟩
theorem leave0' {P:Program} {fn:Func} {R:Ending→World→Prop} {n:Nat} {σ:Nat→Value} {w:World} (hr:fn.results=#[])
  (h:R (.returned (.tuple #[])) w):bodyPost P fn R .normal (F n σ []) w:=⟨rfl,_,results_none hr _ _ _,h⟩
/-! ### Quiet operations in a plain region -/
/-- the operation yields v and leaves the world alone -/
def Ex (P:Program) (ρ:Operand→Value) (w:World) (op:Op) (ty:TypeId) (v:Value):Prop:=
 ∀ dst pos af g,(execOp ρ ⟨dst,op,ty,pos,af,g⟩).run P w= .ok (.value v) w
/-- the operation may turn the world -/
def Eff (P:Program) (ρ:Operand→Value) (w:World) (op:Op) (ty:TypeId) (K:Value→World→Prop):Prop:=
 ∃ v w',K v w'∧((∀ dst pos af g,(execOp ρ ⟨dst,op,ty,pos,af,g⟩).run P w= .ok (.value v) w')∨(v=undef∧∀ dst pos af g,(execOp ρ ⟨dst,op,ty,pos,af,g⟩).run P w= .ok .skip w'))
/-- the operation enters a function -/
def Ent (P:Program) (ρ:Operand→Value) (w:World) (op:Op) (ty:TypeId) (f:FuncId) (args:Array Value):Prop:=
 ∀ dst pos af g,(execOp ρ ⟨dst,op,ty,pos,af,g⟩).run P w= .ok (.enter f args) w
/-- the operations that are left, under a name that nothing opens -/
def WL (rr:Option Nat) (P:Program) (ops:Array Oper) (Q:Exit→Act→World→Prop) (l:List Oper) (a:Act) (w:World):Prop:=wpListIn (Fen rr) 0 P ops Q l a w
theorem WL.mk' {P:Program} {ops:Array Oper} {Q:Exit→Act→World→Prop} {l:List Oper} {a:Act} {w:World} (h:wpListIn (Fen rr) 0 P ops Q l a w):WL rr P ops Q l a w:=h
theorem WL.out {P:Program} {ops:Array Oper} {Q:Exit→Act→World→Prop} {l:List Oper} {a:Act} {w:World} (h:WL rr P ops Q l a w):wpListIn (Fen rr) 0 P ops Q l a w:=h
theorem WL.mono {P:Program} {ops:Array Oper} {Q:Exit→Act→World→Prop} {o:Oper} {rest:List Oper} {a:Act} {w:World} (hg:o.guard=none) (h:o.wpIn (Fen rr) 0 P a w (WL rr P ops Q rest) Q):WL rr P ops Q (o::rest) a w:=by
 refine WL.mk' ?_
 unfold wpListIn
 simp only [Region.wanted,hg,if_true]
 exact h
theorem WL.skip {P:Program} {ops:Array Oper} {Q:Exit→Act→World→Prop} {o:Oper} {rest:List Oper} {a:Act} {w:World} (hw:Region.wanted o (yielded ops a.tmps)=false) (h:WL rr P ops Q rest (a.put o.dst undef) w):WL rr P ops Q (o::rest) a w:=by
 refine WL.mk' ?_
 unfold wpListIn
 rw [if_neg (by rw [hw];exact Bool.false_ne_true)]
 exact ⟨fun f _=>Fen_fn rr f,h.out⟩
theorem WL.guard {P:Program} {ops:Array Oper} {Q:Exit→Act→World→Prop} {d:Option Tmp} {op:Op} {ty:TypeId} {pos:String} {af:Array Edge} {g:Option (Nat × Bool)} {rest:List Oper} {a:Act} {w:World} (hw:Region.wanted ⟨d,op,ty,pos,af,g⟩ (yielded ops a.tmps)=true) (h:WL rr P ops Q (⟨d,op,ty,pos,af,none⟩::rest) a w):WL rr P ops Q (⟨d,op,ty,pos,af,g⟩::rest) a w:=by
 have h1:=h.out
 refine WL.mk' ?_
 unfold wpListIn at h1 ⊢
 rw [if_pos hw]
 simp only [Region.wanted,if_true] at h1
 exact h1
attribute [irreducible] WL
section
variable {P:Program} {ops:Array Oper} {Q:Exit→Act→World→Prop} {rest:List Oper} {n:Nat} {σ:Nat→Value} {ds:List Deferred} {w:World} {op:Op} {ty:TypeId} {pos:String} {af:Array Edge} {d:Nat} {v:Value}
theorem st_q (h:Ex P (ev n σ) w op ty v) (k:WL rr P ops Q rest (F n (upd σ d v) ds) w):WL rr P ops Q (⟨some d,op,ty,pos,af,none⟩::rest) (F n σ ds) w:=by
 refine WL.mono rfl ⟨fun f _=>Fen_fn rr f,?_⟩
 rw [F_eval,run_fen (h _ _ _ _) (by intro d e;cases e)]
 simp only [Oper.uponIn,F_put]
 exact k
/-- a test of which both ways are walked -/
theorem st_if {p:Prop} [Decidable p] (h:Ex P (ev n σ) w op ty (.bool (decide p))) (k1:p→WL rr P ops Q rest (F n (upd σ d (.bool true)) ds) w) (k2:¬ p→WL rr P ops Q rest (F n (upd σ d (.bool false)) ds) w) :
  WL rr P ops Q (⟨some d,op,ty,pos,af,none⟩::rest) (F n σ ds) w:=by
 by_cases hp:p
 ·exact st_q (by rwa [decide_eq_true hp] at h) (k1 hp)
 ·exact st_q (by rwa [decide_eq_false hp] at h) (k2 hp)
theorem st_e (h:Eff P (ev n σ) w op ty (fun v w'=>WL rr P ops Q rest (F n (upd σ d v) ds) w')):WL rr P ops Q (⟨some d,op,ty,pos,af,none⟩::rest) (F n σ ds) w:=by
 obtain ⟨v,w',k,h⟩:=h
 refine WL.mono rfl ⟨fun f _=>Fen_fn rr f,?_⟩
 rw [F_eval]
 rcases h with h | ⟨rfl,h⟩ <;> rw [run_fen (h _ _ _ _) (by intro d e;cases e)] <;> simp only [Oper.uponIn,F_put] <;> exact k
theorem st_s (h:Eff P (ev n σ) w op ty (fun _ w'=>WL rr P ops Q rest (F n σ ds) w')):WL rr P ops Q (⟨none,op,ty,pos,af,none⟩::rest) (F n σ ds) w:=by
 obtain ⟨v,w',k,h⟩:=h
 refine WL.mono rfl ⟨fun f _=>Fen_fn rr f,?_⟩
 rw [F_eval]
 rcases h with h | ⟨rfl,h⟩ <;> rw [run_fen (h _ _ _ _) (by intro d e;cases e)] <;> simp only [Oper.uponIn,F_put_none] <;> exact k
theorem st_c {f:FuncId} {args:Array Value} {R:Ending→World→Prop} (he:Ent P (ev n σ) w op ty f args) (hc:Calls P f args w R)
  (k:∀ e w',R e w'→∃ v,e= .returned v∧WL rr P ops Q rest (F n (upd σ d v) ds) w'):WL rr P ops Q (⟨some d,op,ty,pos,af,none⟩::rest) (F n σ ds) w:=by
 refine WL.mono rfl ⟨fun f _=>Fen_fn rr f,?_⟩
 rw [F_eval,run_fen (he _ _ _ _) (by intro d e;cases e)]
 simp only [Oper.uponIn]
 refine ⟨Fen_depth rr,callsIn_fen (hc.mono fun e w' hR=>?_)⟩
 obtain ⟨v,rfl,hk⟩:=k e w' hR
 simp only [F_put]
 exact hk
theorem wanted_of {j t:Nat} {b b':Bool} {dst:Option Tmp} (hj:(ops[j]?).bind (·.dst)=some t) (ht:ev n σ (.tmp t)= .bool b') (hlt:t<n) :
  Region.wanted ⟨dst,op,ty,pos,af,some (j,b)⟩ (yielded ops (F n σ ds).tmps)=(b' == b):=by
 have h1:Nat.blt t n=true:=by rw [Nat.blt_eq];exact hlt
 simp only [ev,h1,cond_true] at ht
 simp only [Region.wanted,yielded,hj,F,Option.bind_some,mk_get,if_pos hlt,ht]
 cases b <;> cases b' <;> rfl
theorem wanted_undef {j t:Nat} {b:Bool} {dst:Option Tmp} (hj:(ops[j]?).bind (·.dst)=some t) (ht:ev n σ (.tmp t)=undef) (hlt:t<n) :
  Region.wanted ⟨dst,op,ty,pos,af,some (j,b)⟩ (yielded ops (F n σ ds).tmps)=false:=by
 have h1:Nat.blt t n=true:=by rw [Nat.blt_eq];exact hlt
 simp only [ev,h1,cond_true] at ht
 simp only [Region.wanted,yielded,hj,F,Option.bind_some,mk_get,if_pos hlt,ht,undef]
 rfl
/-- a guarded operation whose guard has not been carried out -/
theorem st_gu (j t:Nat) {b:Bool} (hj:(ops[j]?).bind (·.dst)=some t) (ht:ev n σ (.tmp t)=undef) (hlt:t<n)
  (h:WL rr P ops Q rest (F n (upd σ d undef) ds) w):WL rr P ops Q (⟨some d,op,ty,pos,af,some (j,b)⟩::rest) (F n σ ds) w:=by
 exact WL.skip (wanted_undef hj ht hlt) (by simp only [F_put];exact h)
/-- a guarded operation that is carried out -/
theorem st_gq (j t:Nat) {b:Bool} (hj:(ops[j]?).bind (·.dst)=some t) (ht:ev n σ (.tmp t)= .bool b) (hlt:t<n)
  (h:WL rr P ops Q (⟨some d,op,ty,pos,af,none⟩::rest) (F n σ ds) w):WL rr P ops Q (⟨some d,op,ty,pos,af,some (j,b)⟩::rest) (F n σ ds) w:=by
 exact WL.guard (by rw [wanted_of hj ht hlt];simp) h
/-- a guarded operation that is passed over -/
theorem st_gn (j t:Nat) {b b':Bool} (hj:(ops[j]?).bind (·.dst)=some t) (ht:ev n σ (.tmp t)= .bool b') (hlt:t<n) (hne:(b' == b)=false)
  (h:WL rr P ops Q rest (F n (upd σ d undef) ds) w):WL rr P ops Q (⟨some d,op,ty,pos,af,some (j,b)⟩::rest) (F n σ ds) w:=by
 exact WL.skip (by rw [wanted_of hj ht hlt];exact hne) (by simp only [F_put];exact h)
theorem st_nil (h:Q .normal (F n σ ds) w):WL rr P ops Q [] (F n σ ds) w:=WL.mk' h
theorem region {id:Nat} {l:List Oper} {a:Act} (h:WL rr P l.toArray Q l a w):(Code.region id l.toArray false).wq rr P Q a w:=wpIn_region_lit h.out
end
end Go.Eng
