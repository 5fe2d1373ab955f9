/- Strings byte by byte, other kinds of ints, floats: the operations. Seat-free. -/
import Derived.Test.YtljfgmedbjlkaaaGreatSli
import Derived.Test.YtljfgmedbjlkaaaGreatFlt
namespace Go.Eng
open Go.RowKit Go.Flt
section
variable {P:Program} {n:Nat} {σ:Nat→Value} {w:World} {ty t t':TypeId} {x y z:Operand}
/-! strings -/
def ch (s:ByteArray) (i:Nat):Nat:=(s.get! i).toNat
theorem get?_ch {s:ByteArray} {i:Nat} (h:i<s.size):s[i]?=some (s.get! i):=by
 rw [getElem?_pos s i h]
 congr 1
 cases s with
 | mk d=>
  have hd:i<d.size:=h
  show d[i]=d[i]!
  rw [getElem!_pos d i hd]
theorem x_indexS {s:ByteArray} {i:Nat} {k:IntKind} (hT:P.underlying t=some .string) (hx:ev n σ x= .string s) (hy:ev n σ y= .int k (i:Int)) (h:i<s.size):Ex P (ev n σ) w (.index t x y) ty (.int .u8 ((ch s i:Nat):Int)):=by
 intro _ _ _ _
 have h1:=get?_ch h
 simp [execOp,hx,hy,Instr.index,asIntOf,run_underlying hT,h1,ch]
theorem x_sliceSLo {s:ByteArray} {l:Nat} {k:IntKind} (hT:P.underlying t=some .string) (hx:ev n σ x= .string s) (hy:ev n σ y= .int k (l:Int)) (h:l≤s.size):Ex P (ev n σ) w (.slice t x (some y) none none) ty (.string (s.extract l s.size)):=by
 intro _ _ _ _
 simp [execOp,hx,hy,Instr.sliceAt,Instr.slice,run_underlying hT,Instr.sliceBounds,Instr.sliceBound,asIntOf,h]
theorem x_sliceSHi {s:ByteArray} {u:Nat} {k:IntKind} (hT:P.underlying t=some .string) (hx:ev n σ x= .string s) (hy:ev n σ y= .int k (u:Int)) (h:u≤s.size):Ex P (ev n σ) w (.slice t x none (some y) none) ty (.string (s.extract 0 u)):=by
 intro _ _ _ _
 simp [execOp,hx,hy,Instr.sliceAt,Instr.slice,run_underlying hT,Instr.sliceBounds,Instr.sliceBound,asIntOf,h]
theorem x_addS {a b:ByteArray} (hx:ev n σ x= .string a) (hy:ev n σ y= .string b) (h:a.size+b.size≤9223372036854775807):Ex P (ev n σ) w (.binOp .add t x y t') ty (.string (a++b)):=by
 intro _ _ _ _
 have h1:¬ (((a.size+b.size:Nat):Int) > IntKind.i64.max):=by have:IntKind.i64.max=9223372036854775807:=(by decide);rw [this];omega
 have h2:¬ (IntKind.i64.max<((a.size:Int)+(b.size:Int))):=by rw [← Int.natCast_add];exact h1
 simp [execOp,hx,hy,eqGuard,binOp,Op.stringOp]
 omega
/-! other kinds of ints -/
theorem wrap_small {k:IntKind} {m:Nat} (h:m<128):k.wrap (m:Int)=m:=by
 cases k <;> simp [IntKind.wrap,IntKind.bits,IntKind.signed] <;> omega
theorem wrap_big {k:IntKind} (hk:k= .i64∨k= .u64) {m:Nat} (h:m≤9223372036854775807):k.wrap (m:Int)=m:=by
 rcases hk with rfl | rfl <;> simp [IntKind.wrap,IntKind.bits,IntKind.signed] <;> omega
theorem x_subK {k:IntKind} {a b:Nat} (hx:ev n σ x= .int k a) (hy:ev n σ y= .int k b) (hle:b≤a) (hr:a-b<128):Ex P (ev n σ) w (.binOp .sub t x y t') ty (.int k ((a-b:Nat):Int)):=by
 intro _ _ _ _
 have:k.wrap ((a:Int)-(b:Int))=((a-b:Nat):Int):=by rw [← Int.natCast_sub hle];exact wrap_small hr
 simp [execOp,hx,hy,eqGuard,binOp,Op.intArith,this]
theorem x_conv {k k':IntKind} {a:Nat} (hT:P.underlying t'=some (.int k')) {src:TypeDesc} (hS:P.underlying t=some src) (hx:ev n σ x= .int k a) (hr:a<128∨((k'= .i64∨k'= .u64)∧a≤9223372036854775807)):Ex P (ev n σ) w (.convert t t' x) ty (.int k' (a:Int)):=by
 intro _ _ _ _
 have:k'.wrap (a:Int)=a:=hr.elim wrap_small fun h=>wrap_big h.1 h.2
 simp [execOp,hx,convert,run_underlying hT,run_underlying hS,Conv.intToInt,this]
/-! floats -/
def fromInt (a:Int):Nat:=FloatKind.f64.nearest a
theorem x_convF {k:IntKind} {a:Int} (hT:P.underlying t'=some (.float .f64)) {src:TypeDesc} (hS:P.underlying t=some src) (hx:ev n σ x= .int k a):Ex P (ev n σ) w (.convert t t' x) ty (.float .f64 (fromInt a)):=by
 intro _ _ _ _
 simp [execOp,hx,convert,run_underlying hT,run_underlying hS,Conv.intToFloat,fromInt]
theorem x_gtrF {a b:Nat} (hx:ev n σ x= .float .f64 a) (hy:ev n σ y= .float .f64 b):Ex P (ev n σ) w (.binOp .gtr t x y t') ty (.bool (decide (Flt.D.order a b=some .gt))):=by
 intro _ _ _ _
 have h':FloatKind.f64.format.order a b=Flt.D.order a b:=rfl
 simp [execOp,hx,hy,eqGuard,binOp,Op.floatCmp,h']
 generalize Flt.D.order a b=o
 cases o with
 | none=>rfl
 | some c=>cases c <;> rfl
theorem x_geqF {a b:Nat} (hx:ev n σ x= .float .f64 a) (hy:ev n σ y= .float .f64 b):Ex P (ev n σ) w (.binOp .geq t x y t') ty (.bool (decide (Flt.D.order a b=some .gt∨Flt.D.order a b=some .eq))):=by
 intro _ _ _ _
 have h':FloatKind.f64.format.order a b=Flt.D.order a b:=rfl
 simp [execOp,hx,hy,eqGuard,binOp,Op.floatCmp,h']
 generalize Flt.D.order a b=o
 cases o with
 | none=>rfl
 | some c=>cases c <;> rfl
theorem x_leqF {a b:Nat} (hx:ev n σ x= .float .f64 a) (hy:ev n σ y= .float .f64 b):Ex P (ev n σ) w (.binOp .leq t x y t') ty (.bool (decide (Flt.D.order a b=some .lt∨Flt.D.order a b=some .eq))):=by
 intro _ _ _ _
 have h':FloatKind.f64.format.order a b=Flt.D.order a b:=rfl
 simp [execOp,hx,hy,eqGuard,binOp,Op.floatCmp,h']
 generalize Flt.D.order a b=o
 cases o with
 | none=>rfl
 | some c=>cases c <;> rfl
theorem x_lssF {a b:Nat} (hx:ev n σ x= .float .f64 a) (hy:ev n σ y= .float .f64 b):Ex P (ev n σ) w (.binOp .lss t x y t') ty (.bool (decide (Flt.D.order a b=some .lt))):=by
 intro _ _ _ _
 have h':FloatKind.f64.format.order a b=Flt.D.order a b:=rfl
 simp [execOp,hx,hy,eqGuard,binOp,Op.floatCmp,h']
 generalize Flt.D.order a b=o
 cases o with
 | none=>rfl
 | some c=>cases c <;> rfl
/-! a text gone over rune by rune -/
theorem e_nextS {s:ByteArray} {b pos:Nat} {K:Value→World→Prop} (hx:ev n σ x= .pointer (some ⟨b,0,none⟩)) (hb:w.heap[b]?=some (.stringIter s pos))
  (k0:¬ pos<s.size→K (.tuple #[.bool false]) w) (k1:pos<s.size→∀ w',Pt w w' b (.stringIter s (pos+(Utf8.decode s pos).2))→K (.tuple #[.bool true,.int .i64 (pos:Int),.int .i32 ((Utf8.decode s pos).1:Int)]) w'):Eff P (ev n σ) w (.next x true) ty K:=by
 have hlt:b<w.heap.size:=(Array.getElem?_eq_some_iff.1 hb).1
 by_cases h:pos<s.size
 ·refine ⟨_,_,k1 h { w with heap:=w.heap.setIfInBounds b (.stringIter s (pos+(Utf8.decode s pos).2)) } ⟨hlt,rfl⟩,.inl fun _ _ _ _=>?_⟩
  simp [execOp,hx,Instr.next,getObj,setObj,hb,h,goInt,Sem.run]
 ·refine ⟨_,_,k0 h,.inl fun _ _ _ _=>?_⟩
  simp [execOp,hx,Instr.next,getObj,hb,h,Sem.run]
end
end Go.Eng
