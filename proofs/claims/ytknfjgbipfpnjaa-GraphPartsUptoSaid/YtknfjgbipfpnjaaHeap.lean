import Derived.Test.YtknfjgbipfpnjaaSli
import Derived.Test.YtknfjgbipfpnjaaHeapPure
namespace Go.Eng
open Go.RowKit Go.HeapPure
section
variable {S : Nat → Prop} {w w' : World}
/-- a heap's own block and its list -/
structure HeapR {α : Type} (h : Array Obj) (lo TH TE kE : Nat) (encE : α × Nat → List Value) (b : Nat) (g v : Value) (es : List (α × Nat)) (nx : Nat) : Prop where
  ge : lo ≤ b
  blk : Blk h b [g, v, .int .i64 ((nx : Nat) : Int)] TH
  own : Own h lo TE kE v es.length (flat encE es)
  ne : v.ownBlock ≠ some b
def enE {α : Type} (enc : α → List Value) (e : α × Nat) : List Value := enc e.1 ++ [.int .i64 ((e.2 : Nat) : Int)]
theorem enE_len {α : Type} {enc : α → List Value} {k : Nat} (hk : ∀ x, (enc x).length = k) (e : α × Nat) : (enE enc e).length = k + 1 := by simp [enE, hk]
theorem HeapR.ext {α : Type} {lo TH TE kE : Nat} {encE : α × Nat → List Value} {b : Nat} {g v : Value} {es : List (α × Nat)} {nx : Nat} (hr : HeapR w.heap lo TH TE kE encE b g v es nx) (h : Ext w w') : HeapR w'.heap lo TH TE kE encE b g v es nx := ⟨hr.ge, hr.blk.ext h, hr.own.ext h, hr.ne⟩
theorem HeapR.mod {α : Type} {lo TH TE kE : Nat} {encE : α × Nat → List Value} {b : Nat} {g v : Value} {es : List (α × Nat)} {nx : Nat} (hr : HeapR w.heap lo TH TE kE encE b g v es nx) (h : Mod S w w') (h1 : ¬ S b) (h2 : ∀ k, v.ownBlock = some k → ¬ S k) : HeapR w'.heap lo TH TE kE encE b g v es nx := ⟨hr.ge, hr.blk.mod h h1, hr.own.mod h h2, hr.ne⟩
theorem HeapR.of_ob {α : Type} {h : Array Obj} {lo TH TE kE : Nat} {encE : α × Nat → List Value} (hk : ∀ x, (encE x).length = kE) {b b1 c1 m : Nat} {g : Value} {es : List (α × Nat)} {nx : Nat} (hge : lo ≤ b)
    (hB : Blk h b [g, .slice (some ⟨b1, 0, none⟩) m c1, .int .i64 ((nx : Nat) : Int)] TH) (ho : OB h lo TE kE b1 c1 (flat encE es)) (hm : m ≤ c1) (hl : es.length = m) (hne : b1 ≠ b) : HeapR h lo TH TE kE encE b g (.slice (some ⟨b1, 0, none⟩) m c1) es nx := by
  subst hl
  exact ⟨hge, hB, ho.own hm (by rw [flat_length hk]), fun e => hne (by simpa [Value.ownBlock] using e)⟩
theorem ah_t {α : Type} {c : α → α → Int} {a b : α × Nat} (h : c a.1 b.1 < 0) : decide (ah c a b) = true := decide_eq_true (.inl h)
theorem ah_f {α : Type} {c : α → α → Int} {a b : α × Nat} (h : ¬ c a.1 b.1 < 0) (h2 : ¬ c a.1 b.1 = 0) : decide (ah c a b) = false := decide_eq_false (fun e => e.elim h (fun e => h2 e.1))
theorem ah_n {α : Type} {c : α → α → Int} {a b : α × Nat} (h : ¬ c a.1 b.1 < 0) (h2 : c a.1 b.1 = 0) : decide (ah c a b) = decide (a.2 < b.2) := decide_eq_decide.2 ⟨fun e => e.elim (fun e => absurd e h) (fun e => e.2), fun e => .inr ⟨h2, e⟩⟩
end
end Go.Eng
namespace Go.Eng
theorem HeapR.low {α : Type} {h : Array Obj} {lo TH TE kE : Nat} {encE : α × Nat → List Value} {b : Nat} {g v : Value} {es : List (α × Nat)} {nx : Nat} (hr : HeapR h lo TH TE kE encE b g v es nx) : ∀ i, (i = b ∨ v.ownBlock = some i) → lo ≤ i := by
  rintro i (rfl | hv)
  · exact hr.ge
  · exact (hr.own.lt hv).1
end Go.Eng
