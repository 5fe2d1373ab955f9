/- Floats whose result may be a NaN: any NaN may come. Least, greatest, roots; complex numbers. Seat-free. -/
import Derived.Test.YtegpcbckiehleaaDoorSL
import Derived.Laws.NewFold
namespace Go.Eng
open Go.RowKit Go.Flt Go.OrdPure
/-- what an operation may answer: its result, or any NaN -/
def FR (o : Option Nat) (r : Nat) : Prop := o = some r ∨ (o = none ∧ ¬ NN r)
theorem nan_cut (a b t : Nat) : ¬ NN ((Question.nanBits .f64 a b).cut t) := by
  unfold NN
  have e : ∀ y, Flt.D.read y = if rng y < Flt.D.binade then .number (sgn y) (rng y) Flt.D.leastPlace else if rng y < Flt.D.infRung then .number (sgn y) (Flt.D.binade + rng y % Flt.D.binade) (Flt.D.leastPlace + (rng y / Flt.D.binade - 1 : Nat)) else if rng y = Flt.D.infRung then .infinity (sgn y) else .nan (sgn y) (rng y - Flt.D.infRung) := fun _ => rfl
  have hc : (Question.nanBits .f64 a b).cut t = (t % 2) * 2 ^ 63 + 0x7ff0000000000000 + 1 + (t / 2) % (2 ^ 52 - 1) := rfl
  have hr : Flt.D.infRung < rng ((Question.nanBits .f64 a b).cut t) := by
    rw [hc, rng, D_sw, D_inf]
    have h1 : t % 2 = 0 ∨ t % 2 = 1 := by omega
    have h2 : t / 2 % (2 ^ 52 - 1) < 2 ^ 52 - 1 := Nat.mod_lt _ (by decide)
    rcases h1 with h1 | h1 <;> rw [h1] <;> omega
  have hb : Flt.D.binade < Flt.D.infRung := by rw [D_bin, D_inf]; omega
  rw [e, if_neg (by omega), if_neg (by omega), if_neg (by omega)]
  intro h; cases h
section
variable {P : Program} {n : Nat} {σ : Nat → Value} {w : World} {ty t t' : TypeId} {x y z : Operand} {K : Value → World → Prop} {a b : Nat}
theorem drew_ext (w : World) : Ext w w.drew := (Below.refl _ _).drew
theorem e_addF (hx : ev n σ x = .float .f64 a) (hy : ev n σ y = .float .f64 b) (k : ∀ r w', FR (Flt.D.add a b) r → Ext w w' → K (.float .f64 r) w') : Eff P (ev n σ) w (.binOp .add t x y t') ty K := by
  cases h : Flt.D.add a b with
  | some r => exact ⟨_, _, k r w (.inl h) (Below.refl _ _), .inl (x_addF hx hy h)⟩
  | none =>
    refine ⟨_, _, k _ w.drew (.inr ⟨h, nan_cut a b (w.tape w.drawn (.nanBits .f64 a b))⟩) (drew_ext w), .inl fun _ _ _ _ => ?_⟩
    have h' : FloatKind.f64.format.add a b = none := h
    simp [execOp, hx, hy, eqGuard, binOp, Op.floatArith, h', run_choose_drew, Question.forced]
theorem e_subF (hx : ev n σ x = .float .f64 a) (hy : ev n σ y = .float .f64 b) (k : ∀ r w', FR (Flt.D.sub a b) r → Ext w w' → K (.float .f64 r) w') : Eff P (ev n σ) w (.binOp .sub t x y t') ty K := by
  cases h : Flt.D.sub a b with
  | some r => exact ⟨_, _, k r w (.inl h) (Below.refl _ _), .inl (x_subF hx hy h)⟩
  | none =>
    refine ⟨_, _, k _ w.drew (.inr ⟨h, nan_cut a b (w.tape w.drawn (.nanBits .f64 a b))⟩) (drew_ext w), .inl fun _ _ _ _ => ?_⟩
    have h' : FloatKind.f64.format.sub a b = none := h
    simp [execOp, hx, hy, eqGuard, binOp, Op.floatArith, h', run_choose_drew, Question.forced]
theorem e_mulF (hx : ev n σ x = .float .f64 a) (hy : ev n σ y = .float .f64 b) (k : ∀ r w', FR (Flt.D.mul a b) r → Ext w w' → K (.float .f64 r) w') : Eff P (ev n σ) w (.binOp .mul t x y t') ty K := by
  cases h : Flt.D.mul a b with
  | some r => exact ⟨_, _, k r w (.inl h) (Below.refl _ _), .inl (x_mulF hx hy h)⟩
  | none =>
    refine ⟨_, _, k _ w.drew (.inr ⟨h, nan_cut a b (w.tape w.drawn (.nanBits .f64 a b))⟩) (drew_ext w), .inl fun _ _ _ _ => ?_⟩
    have h' : FloatKind.f64.format.mul a b = none := h
    simp [execOp, hx, hy, eqGuard, binOp, Op.floatArith, h', run_choose_drew, Question.forced]
theorem e_quoF (hx : ev n σ x = .float .f64 a) (hy : ev n σ y = .float .f64 b) (k : ∀ r w', FR (Flt.D.div a b) r → Ext w w' → K (.float .f64 r) w') : Eff P (ev n σ) w (.binOp .quo t x y t') ty K := by
  cases h : Flt.D.div a b with
  | some r => exact ⟨_, _, k r w (.inl h) (Below.refl _ _), .inl (x_quoF hx hy h)⟩
  | none =>
    refine ⟨_, _, k _ w.drew (.inr ⟨h, nan_cut a b (w.tape w.drawn (.nanBits .f64 a b))⟩) (drew_ext w), .inl fun _ _ _ _ => ?_⟩
    have h' : FloatKind.f64.format.div a b = none := h
    simp [execOp, hx, hy, eqGuard, binOp, Op.floatArith, h', run_choose_drew, Question.forced]
theorem sqrt_def (a : Nat) : Extern.MathSqrt.sqrt #[.float .f64 a] = (match FloatKind.f64.format.sqrt a with | some r => pure (.float .f64 r) | none => do pure (.float .f64 (← choose (.nanBits .f64 a a)))) := rfl
/-- the root, as a function of Go's own that the machine has -/
def XSqrt (P : Program) (f : FuncId) : Prop := ∀ (a : Nat) (w : World), (callFunc f #[.float .f64 a]).run P w = ((Extern.MathSqrt.sqrt #[.float .f64 a]) >>= fun v => pure (Next.value v)).run P w
theorem e_sqrtF {f : FuncId} {g : Operand} {ats : Array TypeId} (hf : XSqrt P f) (hg : ev n σ g = .func (.func f) #[] #[]) (hx : ev n σ x = .float .f64 a) (k : ∀ r w', FR (Flt.D.sqrt a) r → Ext w w' → K (.float .f64 r) w') : Eff P (ev n σ) w (.call { callee := .value g, args := #[x], argTypes := ats }) ty K := by
  have hc := hf a w
  cases h : Flt.D.sqrt a with
  | some r =>
    have h' : FloatKind.f64.format.sqrt a = some r := h
    rw [sqrt_def, h'] at hc
    simp at hc
    refine ⟨_, _, k r w (.inl h) (Below.refl _ _), .inl fun _ _ _ _ => ?_⟩
    simp [execOp, resolve, hg, hx, Deferred.ofValue, invoke, hc]
  | none =>
    have h' : FloatKind.f64.format.sqrt a = none := h
    rw [sqrt_def, h'] at hc
    simp [run_choose_drew, Question.forced] at hc
    refine ⟨_, _, k _ w.drew (.inr ⟨h, nan_cut a a (w.tape w.drawn (.nanBits .f64 a a))⟩) (drew_ext w), .inl fun _ _ _ _ => ?_⟩
    simp [execOp, resolve, hg, hx, Deferred.ofValue, invoke, hc]
end
/-- the lesser, the greater; of two noughts the one with a sign, or without -/
def minF (a b : Nat) : Nat := if Flt.D.order a b = some .lt then a else if Flt.D.order a b = some .gt then b else if (FloatKind.f64.decode a).neg then a else b
def maxF (a b : Nat) : Nat := if Flt.D.order a b = some .lt then b else if Flt.D.order a b = some .gt then a else if (FloatKind.f64.decode a).neg then b else a
section
variable {P : Program} {n : Nat} {σ : Nat → Value} {w : World} {ty t t' : TypeId} {x y z : Operand} {K : Value → World → Prop} {a b : Nat}
theorem order_some {a b : Nat} (ha : NN a) (hb : NN b) : ∃ o, Flt.D.order a b = some o := ⟨_, order_kv ha hb⟩
theorem x_minF {ats : Array TypeId} (hx : ev n σ x = .float .f64 a) (hy : ev n σ y = .float .f64 b) (ha : NN a) (hb : NN b) : Ex P (ev n σ) w (.call { callee := .builtin .min, args := #[x, y], argTypes := ats }) ty (.float .f64 (minF a b)) := by
  obtain ⟨o, ho⟩ := order_some ha hb
  have h' : FloatKind.f64.format.order a b = some o := ho
  intro _ _ _ _
  unfold minF
  rw [ho]
  cases o <;> simp [execOp, resolve, hx, hy, invoke, builtin, Builtin.min_, Builtin.min2, h', List.foldlM]
theorem x_maxF {ats : Array TypeId} (hx : ev n σ x = .float .f64 a) (hy : ev n σ y = .float .f64 b) (ha : NN a) (hb : NN b) : Ex P (ev n σ) w (.call { callee := .builtin .max, args := #[x, y], argTypes := ats }) ty (.float .f64 (maxF a b)) := by
  obtain ⟨o, ho⟩ := order_some ha hb
  have h' : FloatKind.f64.format.order a b = some o := ho
  intro _ _ _ _
  unfold maxF
  rw [ho]
  cases o <;> simp [execOp, resolve, hx, hy, invoke, builtin, Builtin.max_, Builtin.max2, h', List.foldlM]
theorem minF_NN {a b : Nat} (ha : NN a) (hb : NN b) : NN (minF a b) := by unfold minF; (repeat' split) <;> assumption
theorem maxF_NN {a b : Nat} (ha : NN a) (hb : NN b) : NN (maxF a b) := by unfold maxF; (repeat' split) <;> assumption
theorem minF_kv {a b : Nat} (ha : NN a) (hb : NN b) : kv (minF a b) = min (kv a) (kv b) := by
  unfold minF
  split
  · rename_i h; have := (order_lt ha hb).1 h; omega
  · split
    · rename_i h; have := (order_gt ha hb).1 h; omega
    · rename_i h1 h2
      have e1 : ¬ kv a < kv b := fun h => h1 ((order_lt ha hb).2 h)
      have e2 : ¬ kv b < kv a := fun h => h2 ((order_gt ha hb).2 h)
      split <;> omega
theorem maxF_kv {a b : Nat} (ha : NN a) (hb : NN b) : kv (maxF a b) = max (kv a) (kv b) := by
  unfold maxF
  split
  · rename_i h; have := (order_lt ha hb).1 h; omega
  · split
    · rename_i h; have := (order_gt ha hb).1 h; omega
    · rename_i h1 h2
      have e1 : ¬ kv a < kv b := fun h => h1 ((order_lt ha hb).2 h)
      have e2 : ¬ kv b < kv a := fun h => h2 ((order_gt ha hb).2 h)
      split <;> omega
end
end Go.Eng
