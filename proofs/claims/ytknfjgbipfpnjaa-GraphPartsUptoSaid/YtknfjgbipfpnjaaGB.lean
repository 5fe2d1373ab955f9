/- Edges: two texts and a sign; two of them held against each other. -/
import Derived.Test.YtknfjgbipfpnjaaSli
namespace Go.Eng
open Go.RowKit
structure EQ3 (P : Program) (t : TypeId) : Prop where
  fs : ∃ f1 f2 f3 : Field, P.underlying t = some (.struct #[f1, f2, f3]) ∧ (f1.name == "_") = false ∧ (f2.name == "_") = false ∧ (f3.name == "_") = false ∧ f1.offset = 0 ∧ f2.offset = 1 ∧ f3.offset = 2 ∧ P.underlying f1.type = some .string ∧ P.underlying f2.type = some .string ∧ P.underlying f3.type = some .bool
  st : P.stoodInHeld t = false
  gd : P.eqGuardType P.depth t = false
theorem ba_beq (a b : ByteArray) : (a == b) = decide (a = b) := by
  cases a with | mk d1 =>
  cases b with | mk d2 =>
  show ByteArray.beq ⟨d1⟩ ⟨d2⟩ = _
  rw [ByteArray.beq]
  have h : (d1 == d2) = decide (d1 = d2) := by rw [Bool.eq_iff_iff]; simp
  rw [h]
  exact decide_eq_decide.2 ⟨fun e => by rw [e], fun e => by injection e⟩
theorem eqIn_str {P : Program} {t : TypeId} (hT : P.underlying t = some .string) (d : Nat) (a b : ByteArray) (w : World) : (Op.equalIn (d + 1) t (.string a) (.string b)).run P w = .ok (decide (a = b)) w := by
  simp [Op.equalIn, run_underlying hT, ba_beq]
theorem run_eq3 {P : Program} {t : TypeId} (h : EQ3 P t) (d : Nat) (a b a' b' : ByteArray) (c c' : Bool) (w : World) : (Op.equalIn (d + 2) t (.agg #[.string a, .string b, .bool c]) (.agg #[.string a', .string b', .bool c'])).run P w = .ok (decide (a = a' ∧ b = b' ∧ c = c')) w := by
  obtain ⟨⟨f1, f2, f3, hT, h1, h2, h3, o1, o2, o3, u1, u2, u3⟩, hst, _⟩ := h
  have e1 : ¬ f1.name = "_" := by simpa using h1
  have e2 : ¬ f2.name = "_" := by simpa using h2
  have e3 : ¬ f3.name = "_" := by simpa using h3
  rw [Op.equalIn]
  simp [run_underlying hT, hst, part, isAgg, run_underlying u1, run_underlying u2, run_underlying u3, o1, o2, o3, e1, e2, e3, eqIn_str u1, eqIn_str u2, fun d (p q : Bool) => eqIn_bool (P := P) (w := w) (p := p) (q := q) d u3]
  by_cases ha : a = a' <;> by_cases hb : b = b' <;> by_cases hc : c = c' <;> simp [ha, hb, hc]
section
variable {P : Program} {n : Nat} {σ : Nat → Value} {w : World} {ty t t' : TypeId} {x y : Operand} {a b a' b' : ByteArray} {c c' : Bool}
theorem x_neq3 (h : EQ3 P t) (hx : ev n σ x = .agg #[.string a, .string b, .bool c]) (hy : ev n σ y = .agg #[.string a', .string b', .bool c']) : Ex P (ev n σ) w (.binOp .neq t x y t') ty (.bool (decide (¬ ((a, b, c) = (a', b', c'))))) := by
  intro _ _ _ _
  have h1 := run_eq3 h 9998 a b a' b' c c' w
  have h2 := h.gd
  simp [execOp, hx, hy, eqGuard, binOp, Op.equal, Op.maxDepth, h1, h2]
end
end Go.Eng
