/- A part of the engine: steps over the model. Over any program. -/
import Derived.Test.YtljfgmedbjlkaaaGreatEng
namespace Go.Eng
open Go.RowKit
/-! ### What is asked of the program's types (closed facts) -/
/-- a type whose values are one cell -/
def NA (P:Program) (t:TypeId):Prop:=∀ w,(isAgg t).run P w= .ok false w
/-- a type whose values are k cells together -/
def AG (P:Program) (t:TypeId) (k:Nat):Prop:=∀ w,(isAgg t).run P w= .ok true w∧(sizeOf t).run P w= .ok k w
/-- field number f of a struct lies at this place -/
def FA (P:Program) (s:TypeId) (f off:Nat):Prop:=∀ a w,(Instr.fieldAt s (.pointer (some a)) f).run P w= .ok (.pointer (some (a.add off))) w
/-- a slice type, its elements' type, cells and bytes an element, the zero's cells -/
structure SL (P:Program) (t e:TypeId) (k by_:Nat) (z:Value):Prop where
 und:P.underlying t=some (.slice e)
 inf:∃ i,P.info? e=some i∧i.size=k∧i.bytes=by_∧i.zero=some z
 zs:z.cells.size=k
 pos:0<k
/-- a type's zero -/
def ZV (P:Program) (t:TypeId) (z:Value):Prop:=∀ w,(zeroValue t).run P w= .ok z w
/-- how many cells -/
def SZ (P:Program) (t:TypeId) (k:Nat):Prop:=∀ w,(sizeOf t).run P w= .ok k w
/-- a function with a body -/
def CF (P:Program) (f:FuncId):Prop:=∀ args w,(callFunc f args).run P w= .ok (.enter f args) w
/-- an int's range -/
def I64 (x:Int):Prop:=-9223372036854775808≤x∧x≤9223372036854775807
theorem wrap_ok {x:Int} (h:I64 x):IntKind.i64.wrap x=x:=by
 have:=IntWalk.i64_in x h
 exact this
/-- cells of a block -/
def Cells (h:Array Obj) (b o:Nat) (cs:List Value):Prop:=
 ∃ c e fr,h[b]?=some (.cells c e fr)∧∀ j (_:j<cs.length),c[o+j]?=some cs[j]
theorem Cells.lt {h:Array Obj} {b o:Nat} {cs:List Value} (hc:Cells h b o cs):b<h.size:=by
 obtain ⟨c,e,fr,hb,_⟩:=hc
 exact (Array.getElem?_eq_some_iff.1 hb).1
theorem Cells.cell {w:World} {b o:Nat} {cs:List Value} (hc:Cells w.heap b o cs) (j:Nat) (hj:j<cs.length):w.cell? ⟨b,o+j,none⟩=some cs[j]:=by
 obtain ⟨c,e,fr,hb,h⟩:=hc
 simp [World.cell?,hb,h j hj]
theorem Cells.one {w:World} {b o:Nat} {v:Value} (hc:Cells w.heap b o [v]):w.cell? ⟨b,o,none⟩=some v:=hc.cell 0 (by simp)
section
variable {P:Program} {n:Nat} {σ:Nat→Value} {w:World} {ty:TypeId}
theorem x_move {x:Operand} {v:Value} (h:ev n σ x=v):Ex P (ev n σ) w (.move x) ty v:=by
 subst h;intro _ _ _ _;simp [execOp]
theorem x_assign {x:Operand} {v:Value} (h:ev n σ x=v):Ex P (ev n σ) w (.assign x) ty v:=by
 subst h;intro _ _ _ _;simp [execOp]
theorem x_pickT {c a b:Operand} {v:Value} (hc:ev n σ c= .bool true) (h:ev n σ a=v):Ex P (ev n σ) w (.pick c a b) ty v:=by
 subst h;intro _ _ _ _;simp [execOp,hc,asBool]
theorem x_pickF {c a b:Operand} {v:Value} (hc:ev n σ c= .bool false) (h:ev n σ b=v):Ex P (ev n σ) w (.pick c a b) ty v:=by
 subst h;intro _ _ _ _;simp [execOp,hc,asBool]
theorem x_notB {x:Operand} {b:Bool} {t':TypeId} (h:ev n σ x= .bool b):Ex P (ev n σ) w (.unOp .not t' x) ty (.bool (!b)):=by
 intro _ _ _ _;simp [execOp,h,Op.unary]
section ints
variable {x y:Operand} {a b:Int} {t t':TypeId}
theorem x_add (hx:ev n σ x= .int .i64 a) (hy:ev n σ y= .int .i64 b) (hr:I64 (a+b)):Ex P (ev n σ) w (.binOp .add t x y t') ty (.int .i64 (a+b)):=by
 intro _ _ _ _;simp [execOp,hx,hy,eqGuard,binOp,Op.intArith,wrap_ok hr]
theorem x_sub (hx:ev n σ x= .int .i64 a) (hy:ev n σ y= .int .i64 b) (hr:I64 (a-b)):Ex P (ev n σ) w (.binOp .sub t x y t') ty (.int .i64 (a-b)):=by
 intro _ _ _ _;simp [execOp,hx,hy,eqGuard,binOp,Op.intArith,wrap_ok hr]
theorem x_mul (hx:ev n σ x= .int .i64 a) (hy:ev n σ y= .int .i64 b) (hr:I64 (a * b)):Ex P (ev n σ) w (.binOp .mul t x y t') ty (.int .i64 (a * b)):=by
 intro _ _ _ _;simp [execOp,hx,hy,eqGuard,binOp,Op.intArith,wrap_ok hr]
theorem x_lss {k:IntKind} (hx:ev n σ x= .int k a) (hy:ev n σ y= .int k b):Ex P (ev n σ) w (.binOp .lss t x y t') ty (.bool (decide (a<b))):=by
 intro _ _ _ _;simp [execOp,hx,hy,eqGuard,binOp,Op.intCmp]
theorem x_leq {k:IntKind} (hx:ev n σ x= .int k a) (hy:ev n σ y= .int k b):Ex P (ev n σ) w (.binOp .leq t x y t') ty (.bool (decide (a≤b))):=by
 intro _ _ _ _;simp [execOp,hx,hy,eqGuard,binOp,Op.intCmp]
theorem x_gtr {k:IntKind} (hx:ev n σ x= .int k a) (hy:ev n σ y= .int k b):Ex P (ev n σ) w (.binOp .gtr t x y t') ty (.bool (decide (b<a))):=by
 intro _ _ _ _;simp [execOp,hx,hy,eqGuard,binOp,Op.intCmp]
theorem x_geq {k:IntKind} (hx:ev n σ x= .int k a) (hy:ev n σ y= .int k b):Ex P (ev n σ) w (.binOp .geq t x y t') ty (.bool (decide (b≤a))):=by
 intro _ _ _ _;simp [execOp,hx,hy,eqGuard,binOp,Op.intCmp]
theorem x_eql {k:IntKind} (hx:ev n σ x= .int k a) (hy:ev n σ y= .int k b):Ex P (ev n σ) w (.binOp .eql t x y t') ty (.bool (decide (a=b))):=by
 intro _ _ _ _;simp [execOp,hx,hy,eqGuard,binOp,Op.intCmp];rfl
theorem x_neq {k:IntKind} (hx:ev n σ x= .int k a) (hy:ev n σ y= .int k b):Ex P (ev n σ) w (.binOp .neq t x y t') ty (.bool (decide (a≠b))):=by
 intro _ _ _ _;simp [execOp,hx,hy,eqGuard,binOp,Op.intCmp,bne];rfl
end ints
/-! ints that are numbers of things -/
section nats
variable {x y:Operand} {a b:Nat} {t t':TypeId}
theorem x_addN (hx:ev n σ x= .int .i64 a) (hy:ev n σ y= .int .i64 b) (hr:a+b≤9223372036854775807):Ex P (ev n σ) w (.binOp .add t x y t') ty (.int .i64 ((a+b:Nat):Int)):=by
 have h:I64 ((a:Int)+(b:Int)):=⟨by omega,by omega⟩
 have:=x_add (P:=P) (w:=w) (ty:=ty) (t:=t) (t':=t') hx hy h
 rwa [← Int.natCast_add] at this
theorem x_subN (hx:ev n σ x= .int .i64 a) (hy:ev n σ y= .int .i64 b) (hle:b≤a) (hr:a≤9223372036854775807):Ex P (ev n σ) w (.binOp .sub t x y t') ty (.int .i64 ((a-b:Nat):Int)):=by
 have h:I64 ((a:Int)-(b:Int)):=⟨by omega,by omega⟩
 have:=x_sub (P:=P) (w:=w) (ty:=ty) (t:=t) (t':=t') hx hy h
 rwa [← Int.natCast_sub hle] at this
theorem x_lssN {k:IntKind} (hx:ev n σ x= .int k a) (hy:ev n σ y= .int k b):Ex P (ev n σ) w (.binOp .lss t x y t') ty (.bool (decide (a<b))):=by
 have:=x_lss (P:=P) (w:=w) (ty:=ty) (t:=t) (t':=t') hx hy
 simpa only [Int.ofNat_lt] using this
theorem x_leqN {k:IntKind} (hx:ev n σ x= .int k a) (hy:ev n σ y= .int k b):Ex P (ev n σ) w (.binOp .leq t x y t') ty (.bool (decide (a≤b))):=by
 have:=x_leq (P:=P) (w:=w) (ty:=ty) (t:=t) (t':=t') hx hy
 simpa only [Int.ofNat_le] using this
theorem x_gtrN {k:IntKind} (hx:ev n σ x= .int k a) (hy:ev n σ y= .int k b):Ex P (ev n σ) w (.binOp .gtr t x y t') ty (.bool (decide (b<a))):=by
 have:=x_gtr (P:=P) (w:=w) (ty:=ty) (t:=t) (t':=t') hx hy
 simpa only [Int.ofNat_lt] using this
theorem x_geqN {k:IntKind} (hx:ev n σ x= .int k a) (hy:ev n σ y= .int k b):Ex P (ev n σ) w (.binOp .geq t x y t') ty (.bool (decide (b≤a))):=by
 have:=x_geq (P:=P) (w:=w) (ty:=ty) (t:=t) (t':=t') hx hy
 simpa only [Int.ofNat_le] using this
theorem x_eqlN {k:IntKind} (hx:ev n σ x= .int k a) (hy:ev n σ y= .int k b):Ex P (ev n σ) w (.binOp .eql t x y t') ty (.bool (decide (a=b))):=by
 have:=x_eql (P:=P) (w:=w) (ty:=ty) (t:=t) (t':=t') hx hy
 simpa only [Int.ofNat_inj] using this
theorem x_neqN {k:IntKind} (hx:ev n σ x= .int k a) (hy:ev n σ y= .int k b):Ex P (ev n σ) w (.binOp .neq t x y t') ty (.bool (decide (a≠b))):=by
 have:=x_neq (P:=P) (w:=w) (ty:=ty) (t:=t) (t':=t') hx hy
 simpa only [ne_eq,Int.ofNat_inj] using this
end nats
/-! strings, bools, nil -/
section others
variable {x y:Operand} {t t':TypeId} {a b:ByteArray}
theorem beq_bytes (a b:List UInt8):(a == b)=decide (a=b):=by by_cases h:a=b <;> simp [h]
theorem x_eqlS (hx:ev n σ x= .string a) (hy:ev n σ y= .string b):Ex P (ev n σ) w (.binOp .eql t x y t') ty (.bool (decide (a.toList=b.toList))):=by
 intro _ _ _ _;simp [execOp,hx,hy,eqGuard,binOp,Op.stringOp,beq_bytes]
theorem eqIn_bool {p q:Bool} (d:Nat) (hT:P.underlying t=some .bool):(Op.equalIn (d+1) t (.bool p) (.bool q)).run P w= .ok (p == q) w:=by simp [Op.equalIn,run_underlying hT]
theorem x_neqB {p q:Prop} [Decidable p] [Decidable q] (hT:P.underlying t=some .bool) (hx:ev n σ x= .bool (decide p)) (hy:ev n σ y= .bool (decide q)):Ex P (ev n σ) w (.binOp .neq t x y t') ty (.bool (decide (¬ (p↔q)))):=by
 intro _ _ _ _
 have h:=eqIn_bool (P:=P) (w:=w) (p:=decide p) (q:=decide q) 9999 hT
 simp [execOp,hx,hy,eqGuard,binOp,Op.equal,Op.maxDepth,h]
theorem x_lenSl {e:TypeId} {p:Option Addr} {l c:Nat} {ts:Array TypeId} (h0:ts[0]?=some t) (hT:P.underlying t=some (.slice e)) (hx:ev n σ x= .slice p l c):Ex P (ev n σ) w (.call { callee:=.builtin .len,args:=#[x],argTypes:=ts }) ty (.int .i64 (l:Int)):=by
 intro _ _ _ _;simp [execOp,resolve,invoke,builtin,hx,Builtin.len_,h0,run_underlying hT,goInt]
theorem x_capSl {e:TypeId} {p:Option Addr} {l c:Nat} {ts:Array TypeId} (h0:ts[0]?=some t) (hT:P.underlying t=some (.slice e)) (hx:ev n σ x= .slice p l c):Ex P (ev n σ) w (.call { callee:=.builtin .cap,args:=#[x],argTypes:=ts }) ty (.int .i64 (c:Int)):=by
 intro _ _ _ _;simp [execOp,resolve,invoke,builtin,hx,Builtin.cap_,h0,run_underlying hT,goInt]
theorem x_lenS {ts:Array TypeId} (h0:ts[0]?=some t) (hT:P.underlying t=some .string) (hx:ev n σ x= .string a):Ex P (ev n σ) w (.call { callee:=.builtin .len,args:=#[x],argTypes:=ts }) ty (.int .i64 (a.size:Int)):=by
 intro _ _ _ _;simp [execOp,resolve,invoke,builtin,hx,Builtin.len_,h0,run_underlying hT,goInt]
theorem x_nilCheck {b o:Nat} (hx:ev n σ x= .pointer (some ⟨b,o,none⟩)):Ex P (ev n σ) w (.nilCheck x) ty (.pointer (some ⟨b,o,none⟩)):=by
 intro _ _ _ _;simp [execOp,hx]
theorem add_addr (b o m:Nat):(⟨b,o,none⟩:Addr).add m=⟨b,o+m,none⟩:=by unfold Addr.add;split <;> simp_all
theorem x_field {b o s f off:Nat} (hF:FA P s f off) (hx:ev n σ x= .pointer (some ⟨b,o,none⟩)):Ex P (ev n σ) w (.fieldAddr s x f) ty (.pointer (some ⟨b,o+off,none⟩)):=by
 intro _ _ _ _
 have:=hF ⟨b,o,none⟩ w
 rw [add_addr] at this
 simp [execOp,hx,this]
theorem x_index {b o len cap i e k bb:Nat} {z:Value} {kk:IntKind} (hS:SL P t e k bb z) (hx:ev n σ x= .slice (some ⟨b,o,none⟩) len cap) (hy:ev n σ y= .int kk (i:Int)) (hi:i<len):Ex P (ev n σ) w (.indexAddr t x y) ty (.pointer (some ⟨b,o+i * k,none⟩)):=by
 intro _ _ _ _
 obtain ⟨inf,hi1,hi2,_,_⟩:=hS.inf
 have e1:(0:Int)≤(i:Int)∧(i:Int)<(len:Int):=⟨by omega,by omega⟩
 simp [execOp,hx,hy,Instr.indexAt,asIntOf,run_underlying hS.und,sizeOf,typeInfo,hi1,hi2,add_addr,hi]
theorem x_load1 {b o:Nat} {v:Value} (hN:NA P t) (hx:ev n σ x= .pointer (some ⟨b,o,none⟩)) (hc:Cells w.heap b o [v]):Ex P (ev n σ) w (.load t x) ty v:=by
 intro _ _ _ _
 have h1:=hN w
 have h2:=hc.one
 simp [execOp,hx,Instr.loadAt,Instr.sureAddr,loadVar,h1,load,Sem.run,h2]
theorem run_loadCellsFrom {b o:Nat} {cs:List Value} (hc:Cells w.heap b o cs):∀ (m i:Nat) (acc:Array Value),i+m=cs.length→(loadCellsFrom ⟨b,o,none⟩ i m acc).run P w= .ok (acc++(cs.drop i).toArray) w
 | 0,i,acc,h=>by
  have:cs.drop i=[]:=List.drop_eq_nil_of_le (by omega)
  simp [loadCellsFrom,this]
 | m+1,i,acc,h=>by
  have hi:i<cs.length:=by omega
  have h1:=hc.cell i hi
  have ih:=run_loadCellsFrom hc m (i+1) (acc.push cs[i]) (by omega)
  have hd:cs.drop i=cs[i]::cs.drop (i+1):=List.drop_eq_getElem_cons hi
  simp only [loadCellsFrom,load,add_addr]
  simp only [Sem.run,Sem.run_bind,Result.andThen_ok,h1,ih]
  rw [hd]
  simp
theorem x_loadA {b o:Nat} (cs:List Value) (hN0:AG P t (List.length cs)) (hx:ev n σ x= .pointer (some ⟨b,o,none⟩)) (hc:Cells w.heap b o cs):Ex P (ev n σ) w (.load t x) ty (.agg cs.toArray):=by
 intro _ _ _ _
 obtain ⟨h1,h2⟩:=hN0 w
 have h3:=run_loadCellsFrom (P:=P) hc cs.length 0 #[] (by omega)
 simp only [List.drop_zero,Array.empty_append] at h3
 simp [execOp,hx,Instr.loadAt,Instr.sureAddr,loadVar,h1,h2,loadCells,h3]
theorem x_extract {vs:Array Value} {i:Nat} {v:Value} (hx:ev n σ x= .tuple vs) (hi:vs[i]?=some v):Ex P (ev n σ) w (.extract x i) ty v:=by
 intro _ _ _ _;simp [execOp,hx,Instr.extract,hi]
end others
end
end Go.Eng
