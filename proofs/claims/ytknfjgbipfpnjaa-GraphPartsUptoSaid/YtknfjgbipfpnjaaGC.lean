/- Ranks: a text and a number; two of them held against each other. -/
import Derived.Test.YtknfjgbipfpnjaaGB
namespace Go.Eng
open Go.RowKit
structure EQSI (P : Program) (t : TypeId) : Prop where
  fs : ∃ f1 f2 : Field, P.underlying t = some (.struct #[f1, f2]) ∧ (f1.name == "_") = false ∧ (f2.name == "_") = false ∧ f1.offset = 0 ∧ f2.offset = 1 ∧ P.underlying f1.type = some .string ∧ P.underlying f2.type = some (.int .i64)
  st : P.stoodInHeld t = false
  gd : P.eqGuardType P.depth t = false
theorem run_eqSI {P : Program} {t : TypeId} (h : EQSI P t) (d : Nat) (a a' : ByteArray) (b b' : Int) (w : World) : (Op.equalIn (d + 2) t (.agg #[.string a, .int .i64 b]) (.agg #[.string a', .int .i64 b'])).run P w = .ok (decide (a = a' ∧ b = b')) w := by
  obtain ⟨⟨f1, f2, hT, h1, h2, o1, o2, u1, u2⟩, hst, _⟩ := h
  have e1 : ¬ f1.name = "_" := by simpa using h1
  have e2 : ¬ f2.name = "_" := by simpa using h2
  rw [Op.equalIn]
  simp [run_underlying hT, hst, part, isAgg, run_underlying u1, run_underlying u2, o1, o2, e1, e2, eqIn_str u1, eqIn_int u2]
  by_cases ha : a = a' <;> by_cases hb : b = b' <;> simp [ha, hb]
section
variable {P : Program} {n : Nat} {σ : Nat → Value} {w : World} {ty t t' : TypeId} {x y : Operand} {a a' : ByteArray} {b b' : Int}
theorem x_neqSI (h : EQSI P t) (hx : ev n σ x = .agg #[.string a, .int .i64 b]) (hy : ev n σ y = .agg #[.string a', .int .i64 b']) : Ex P (ev n σ) w (.binOp .neq t x y t') ty (.bool (decide (¬ ((a, b) = (a', b'))))) := by
  intro _ _ _ _
  have h1 := run_eqSI h 9998 a a' b b' w
  have h2 := h.gd
  simp [execOp, hx, hy, eqGuard, binOp, Op.equal, Op.maxDepth, h1, h2]
end
end Go.Eng
