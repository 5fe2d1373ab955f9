/- The engine's second form: steps, with what is wanted of types found by itself. Over any program. -/
import Derived.Test.YtljfgmedbjlkaaaGreatV2
import Derived.Test.YtljfgmedbjlkaaaGreatSOps
namespace Go.Eng
open Go.RowKit
variable {rr:Option Nat}
/-! ### Facts on types -/
class SLi (P:Program) (t:TypeId) (e:outParam TypeId) (k bb:outParam Nat):Prop where
 h:∃ z,SL P t e k bb z
class UNi (P:Program) (t:TypeId) (d:outParam TypeDesc):Prop where
 h:P.underlying t=some d
class NAi (P:Program) (t:TypeId):Prop where
 h:NA P t
class AGi (P:Program) (t:TypeId) (k:outParam Nat):Prop where
 h:AG P t k
class SZi (P:Program) (t:TypeId) (k:outParam Nat):Prop where
 h:SZ P t k
class FAi (P:Program) (s:TypeId) (f:Nat) (o:outParam Nat):Prop where
 h:FA P s f o
class ZVi (P:Program) (t:TypeId) (z:outParam Value):Prop where
 h:ZV P t z
class CFi (P:Program) (f:FuncId):Prop where
 h:CF P f
/-! ### Quiet steps -/
section
variable {P:Program} {n:Nat} {σ:Nat→Value} {w:World} {ty t t':TypeId} {x y:Operand}
theorem mv:Ex P (ev n σ) w (.move x) ty (ev n σ x):=x_move rfl
theorem asg:Ex P (ev n σ) w (.assign x) ty (ev n σ x):=x_assign rfl
theorem pkT {c a b:Operand} (hc:ev n σ c= .bool true):Ex P (ev n σ) w (.pick c a b) ty (ev n σ a):=x_pickT hc rfl
theorem pkF {c a b:Operand} (hc:ev n σ c= .bool false):Ex P (ev n σ) w (.pick c a b) ty (ev n σ b):=x_pickF hc rfl
theorem ext {vs:Array Value} {i:Nat} {v:Value} (hx:ev n σ x= .tuple vs) (hi:vs[i]?=some v):Ex P (ev n σ) w (.extract x i) ty v:=x_extract hx hi
theorem len {ts:Array TypeId} {p:Option Addr} {l c:Nat} {e:TypeId} (hx:ev n σ x= .slice p l c) (h0:ts[0]?=some t) [u:UNi P t (.slice e)]:Ex P (ev n σ) w (.call { callee:=.builtin .len,args:=#[x],argTypes:=ts }) ty (.int .i64 (l:Int)):=x_lenSl h0 u.h hx
theorem ld {b o:Nat} {v:Value} [h:NAi P t] (hx:ev n σ x= .pointer (some ⟨b,o,none⟩)) (hc:Cells w.heap b o [v]):Ex P (ev n σ) w (.load t x) ty v:=x_load1 h.h hx hc
theorem addN {a b:Nat} (hx:ev n σ x= .int .i64 a) (hy:ev n σ y= .int .i64 b) (hr:a+b≤9223372036854775807:=by omega):Ex P (ev n σ) w (.binOp .add t x y t') ty (.int .i64 ((a+b:Nat):Int)):=x_addN hx hy hr
theorem subN {a b:Nat} (hx:ev n σ x= .int .i64 a) (hy:ev n σ y= .int .i64 b) (hl:b≤a:=by omega) (hr:a≤9223372036854775807:=by omega):Ex P (ev n σ) w (.binOp .sub t x y t') ty (.int .i64 ((a-b:Nat):Int)):=x_subN hx hy hl hr
end
/-! ### Slices that are read -/
def Srm {α:Type} (E:En α) (h:Array Obj) (a:Option Addr) (m c:Nat) (xs:List α):Prop:=Src h (.slice a m c) m E.k (flat E.enc xs)
section
variable {P:Program} {n:Nat} {σ:Nat→Value} {w w':World} {ty t t':TypeId} {x y:Operand} {α:Type} {E:En α} {h:Array Obj} {a:Option Addr} {m c i:Nat} {xs:List α}
theorem Srm.len (hs:Srm E h a m c xs):xs.length=m:=by
 have h1:=hs.1
 rw [flat_length E.len] at h1
 exact Nat.eq_of_mul_eq_mul_right E.pos h1
theorem Srm.cap (hs:Srm E h a m c xs):m≤c∧c≤9223372036854775807:=(Src.capl hs).2
theorem Srm.addr (hs:Srm E h a m c xs) (hm:0<m):a=some ⟨ab a,ao a,none⟩:=by
 obtain ⟨b,o,rfl,_⟩:=Src.at hs hm;rfl
theorem Srm.cell [Inhabited α] (hs:Srm E h a m c xs) (hi:i<m):Cells h (ab a) (ao a+i * E.k) (E.enc (el xs i)):=by
 have hl:=hs.len
 obtain ⟨b,o,rfl,hc⟩:=Src.at hs (by omega)
 exact hc.elem E.len (by omega)
theorem Srm.ext (hs:Srm E w.heap a m c xs) (hx:Ext w w'):Srm E w'.heap a m c xs:=Src.ext hs hx
end
section
variable {S:Nat→Prop} {w0 w:World} {L:List Ch} {α:Type} {T:TypeId} {E:En α} {a:Option Addr} {m c b o:Nat} {xs:List α} {cs:List Value} {v:Value}
theorem Hp.ld (H:Hp S w0 w L) (i:Nat) (hi:L[i]?=some (cB b T cs)) (o:Nat) (hv:cs[o]?=some v):Cells w.heap b o [v]:=Blk.one (H.at i hi) o hv
theorem Hp.lds (H:Hp S w0 w L) (i:Nat) (hi:L[i]?=some (cB b T cs)) (o:Nat) (vs:List Value) (hv:(cs.drop o).take vs.length=vs):Cells w.heap b o vs:=Blk.cells (H.at i hi) o vs (cells_at hv)
end
/-! ### Steps that turn the world -/
section
variable {P:Program} {n:Nat} {σ:Nat→Value} {w w0:World} {ty t t':TypeId} {x y:Operand} {S:Nat→Prop} {L:List Ch} {K:Value→World→Prop}
theorem Eal {z:Value} (H:Hp S w0 w L) (hz:ZV P t z) (k:∀ b w',Hp S w0 w' (cB b t z.cells.toList::L)→Ext w w'→K (.pointer (some ⟨b,0,none⟩)) w'):Eff P (ev n σ) w (.alloc t) ty K:=
 e_alloc hz fun w' hA=>k _ w' (H.al (by simpa using hA)) hA.ext
theorem Ebx {v:Value} (H:Hp S w0 w L) (hx:ev n σ x=v) (k:∀ b w',Hp S w0 w' (cB b t v.cells.toList::L)→Ext w w'→K (.pointer (some ⟨b,0,none⟩)) w'):Eff P (ev n σ) w (.box t x) ty K:=
 e_box hx fun w' hA=>k _ w' (H.al (by simpa using hA)) hA.ext
theorem Ebs {ln:Nat} {parts:Array (Nat × Operand)} {e:TypeId} {cs:List Value} (H:Hp S w0 w L) (hrun:∀ w,(Instr.buildSlice t ln (parts.map fun (i,x)=>(i,ev n σ x))).run P w= .ok (.slice (some ⟨w.heap.size,0,none⟩) ln ln) (w.alloc (.cells cs.toArray e)))
  (k:∀ b w',Hp S w0 w' (cB b e cs::L)→Ext w w'→K (.slice (some ⟨b,0,none⟩) ln ln) w'):Eff P (ev n σ) w (.buildSlice t ln parts) ty K:=
 e_buildSlice hrun fun w' hA=>k _ w' (H.al hA) hA.ext
theorem Est {b o k0:Nat} {v:Value} {cs:List Value} {T:TypeId} (H:Hp S w0 w L) (i:Nat) (hs:SZ P t k0) (hx:ev n σ x= .pointer (some ⟨b,o,none⟩)) (hi:L[i]?=some (cB b T cs)) (hy:ev n σ y=v) (hk:k0=v.cells.size) (hl:Nat.ble (o+v.cells.size) cs.length=true) (h1:v.cells.toList.all (·.oneCell')=true)
  (k:∀ w',Hp S w0 w' (L.set i (cB b T (splice cs o v.cells.toList)))→K undef w'):Eff P (ev n σ) w (.store t x y) ty K:=
 e_st (hk▸hs) hx hy (H.at i hi) (Nat.le_of_ble_eq_true hl) h1 fun w' hp=>k w' (H.pt i hi hp)
/-- one thing as a list -/
theorem Blk.lst {α:Type} {E:En α} {h:Array Obj} {b:Nat} {T:TypeId} {cs:List Value} (hb:Blk h b cs T) (u:α) (hu:cs=E.enc u):Src h (.slice (some ⟨b,0,none⟩) 1 1) 1 E.k (Eng.flat E.enc [u]):=by
 subst hu
 rw [flat_one]
 exact hb.src1 (by rw [E.len,Nat.one_mul]) (by decide)
theorem Hp.lst {α:Type} {E:En α} {b:Nat} {T:TypeId} {cs:List Value} (H:Hp S w0 w L) (i:Nat) (hi:L[i]?=some (cB b T cs)) (u:α) (hu:cs=E.enc u):Src w.heap (.slice (some ⟨b,0,none⟩) 1 1) 1 E.k (flat E.enc [u]):=Blk.lst (H.at i hi) u hu
end
/-! ### Code -/
section
variable {P:Program} {ops:Array Oper} {Q:Exit→Act→World→Prop} {rest:List Oper} {n:Nat} {σ:Nat→Value} {ds:List Deferred} {w:World} {op:Op} {ty:TypeId} {pos:String} {af:Array Edge} {d:Nat} {v:Value}
/-- a region, and what stands behind it -/
theorem sr {id:Nat} {l:List Oper} {y:Code} {a:Act} (h:∀ Q',(∀ a w,y.wq rr P Q a w→Q' .normal a w)→WL rr P l.toArray Q' l a w):(Code.seq (Code.region id l.toArray false) y).wq rr P Q a w:=
 wpIn_seq (region (h _ fun _ _ h=>h))
/-- a call of a function by its name -/
theorem cl {f:FuncId} {args:Array Operand} {ats:Array TypeId} {vs:List Value} {R:Ending→World→Prop} (c:CF P f) (hc:Calls P f vs.toArray w R) (hv:args.toList.map (ev n σ)=vs)
  (k:∀ e w',R e w'→∃ v,e= .returned v∧WL rr P ops Q rest (F n (upd σ d v) ds) w'):WL rr P ops Q (⟨some d,.call { callee:=.value (.func f),args:=args,argTypes:=ats },ty,pos,af,none⟩::rest) (F n σ ds) w:=
 st_c (t_call vs c rfl (by simpa using hv)) hc k
end
end Go.Eng
namespace Go.Eng
open Go.RowKit
variable {rr:Option Nat}
theorem x_notBB {P:Program} {n:Nat} {σ:Nat→Value} {w:World} {ty t:TypeId} {x:Operand} {b:Bool} (hx:ev n σ x= .bool b):Ex P (ev n σ) w (.unOp .not t x) ty (.bool (decide (¬ (b=true)))):=x_notP (p:=b=true) (by rw [hx];cases b <;> rfl)
section
variable {P:Program} {ops:Array Oper} {Q:Exit→Act→World→Prop} {rest:List Oper} {n:Nat} {σ:Nat→Value} {ds:List Deferred} {w:World} {op:Op} {ty:TypeId} {pos:String} {af:Array Edge} {d:Nat} {v:Value}
theorem qt (h:Ex P (ev n σ) w op ty v) (k:WL rr P ops Q rest (F n (upd σ d v) ds) w):WL rr P ops Q (⟨some d,op,ty,pos,af,none⟩::rest) (F n σ ds) w:=st_q h k
theorem nl (h:Q .normal (F n σ ds) w):WL rr P ops Q [] (F n σ ds) w:=st_nil h
end
end Go.Eng
namespace Go.Eng
open Go.RowKit
variable {rr:Option Nat}
end Go.Eng
namespace Go.Eng
open Go.RowKit
variable {rr:Option Nat}
section
variable {P:Program} {Q:Exit→Act→World→Prop} {n:Nat} {σ:Nat→Value} {ds:List Deferred} {w:World}
/-- a test that is known -/
theorem cndY {x y:Code} {c:Operand} {p:Prop} [Decidable p] (hc:ev n σ c= .bool (decide p)) (hp:¬ ¬ p) (h:x.wq rr P Q (F n σ ds) w):(Code.cond c x y).wq rr P Q (F n σ ds) w:=cnd hc (fun _=>h) fun k=>absurd k hp
theorem cndN {x y:Code} {c:Operand} {p:Prop} [Decidable p] (hc:ev n σ c= .bool (decide p)) (hp:¬ p) (h:y.wq rr P Q (F n σ ds) w):(Code.cond c x y).wq rr P Q (F n σ ds) w:=cnd hc (fun k=>absurd k hp) fun _=>h
end
end Go.Eng
