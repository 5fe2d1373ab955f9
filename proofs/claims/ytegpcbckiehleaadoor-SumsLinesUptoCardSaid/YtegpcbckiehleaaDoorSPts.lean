/- The points of two columns, the line through them, their product: what the parts come to, up to NaNs. Seat-free. -/
import Derived.Test.YtegpcbckiehleaaDoorSAll
import Derived.Laws.Cover3
namespace Go.Eng
open Go.RowKit Go.OrdPure Go.Flt
section
variable {P : Program} {n : Nat} {σ : Nat → Value} {w : World} {ty : TypeId} {x y : Operand} {a b : Nat} {ats : Array TypeId}
theorem x_complex (hx : ev n σ x = .float .f64 a) (hy : ev n σ y = .float .f64 b) : Ex P (ev n σ) w (.call { callee := .builtin .complex, args := #[x, y], argTypes := ats }) ty (.complex .f64 a b) := by
  intro _ _ _ _
  simp [execOp, resolve, hx, hy, invoke, builtin, run_complex]
theorem x_real (hx : ev n σ x = .complex .f64 a b) : Ex P (ev n σ) w (.call { callee := .builtin .real, args := #[x], argTypes := ats }) ty (.float .f64 a) := by
  intro _ _ _ _
  simp [execOp, resolve, hx, invoke, builtin, run_real]
theorem x_imag (hx : ev n σ x = .complex .f64 a b) : Ex P (ev n σ) w (.call { callee := .builtin .imag, args := #[x], argTypes := ats }) ty (.float .f64 b) := by
  intro _ _ _ _
  simp [execOp, resolve, hx, invoke, builtin, run_imag]
end
def enC (p : Nat × Nat) : List Value := [.complex .f64 p.1 p.2]
theorem enC_len (p : Nat × Nat) : (enC p).length = 1 := rfl
/-- the points: both numbers are there -/
def ptsL (x y : Nat) (P : List Tup) : List (Nat × Nat) := P.filterMap fun t => match num (el t x), num (el t y) with | some a, some b => some (a, b) | _, _ => none
theorem ptsL_len (x y : Nat) (P : List Tup) : (ptsL x y P).length ≤ P.length := List.length_filterMap_le _ _
theorem ptsL_yes {x y : Nat} {P : List Tup} {t : Tup} (h1 : (num (el t x)).isSome = true) (h2 : (num (el t y)).isSome = true) : ptsL x y (P ++ [t]) = ptsL x y P ++ [((num (el t x)).getD 0, (num (el t y)).getD 0)] := by
  unfold ptsL
  rw [List.filterMap_append]
  congr 1
  cases ha : num (el t x) with
  | none => rw [ha] at h1; cases h1
  | some a =>
    cases hb : num (el t y) with
    | none => rw [hb] at h2; cases h2
    | some b => simp [ha, hb]
theorem ptsL_no {x y : Nat} {P : List Tup} {t : Tup} (h : ¬ ((num (el t x)).isSome = true ∧ (num (el t y)).isSome = true)) : ptsL x y (P ++ [t]) = ptsL x y P := by
  unfold ptsL
  rw [List.filterMap_append]
  cases ha : num (el t x) with
  | none => simp [ha]
  | some a =>
    cases hb : num (el t y) with
    | none => simp [ha, hb]
    | some b => exact absurd ⟨by rw [ha]; rfl, by rw [hb]; rfl⟩ h
/-- the sums of squares and of products -/
def PQ (ma mb : Nat) (l : List (Nat × Nat)) : Nat → Nat → Nat → Nat → Prop
  | 0, p, q, s => p = 0 ∧ q = 0 ∧ s = 0
  | i + 1, p, q, s => ∃ p0 q0 s0 dx dy xx xy yy, PQ ma mb l i p0 q0 s0 ∧ FR (Flt.D.sub (el l i).1 ma) dx ∧ FR (Flt.D.sub (el l i).2 mb) dy ∧ FR (Flt.D.mul dx dx) xx ∧ FR (Flt.D.add p0 xx) p ∧ FR (Flt.D.mul dx dy) xy ∧ FR (Flt.D.add q0 xy) q ∧ FR (Flt.D.mul dy dy) yy ∧ FR (Flt.D.add s0 yy) s
theorem PQ.sim {ma ma' mb mb' : Nat} {l : List (Nat × Nat)} (ha : Sim ma ma') (hb : Sim mb mb') : ∀ {i p q s p' q' s' : Nat}, PQ ma mb l i p q s → PQ ma' mb' l i p' q' s' → Sim p p' ∧ Sim q q' ∧ Sim s s'
  | 0, _, _, _, _, _, _, ⟨h1, h2, h3⟩, ⟨k1, k2, k3⟩ => ⟨.inl (h1.trans k1.symm), .inl (h2.trans k2.symm), .inl (h3.trans k3.symm)⟩
  | _ + 1, _, _, _, _, _, _, ⟨_, _, _, _, _, _, _, _, h0, h1, h2, h3, h4, h5, h6, h7, h8⟩, ⟨_, _, _, _, _, _, _, _, k0, k1, k2, k3, k4, k5, k6, k7, k8⟩ => by
    obtain ⟨e1, e2, e3⟩ := PQ.sim ha hb h0 k0
    have d1 := sim2 sub_nan (Sim.refl _) ha h1 k1
    have d2 := sim2 sub_nan (Sim.refl _) hb h2 k2
    exact ⟨sim2 add_nan e1 (sim2 mul_nan d1 d1 h3 k3) h4 k4, sim2 add_nan e2 (sim2 mul_nan d1 d2 h5 k5) h6 k6, sim2 add_nan e3 (sim2 mul_nan d2 d2 h7 k7) h8 k8⟩
theorem eq0_sim {p p' : Nat} (h : Sim p p') : Flt.D.order p 0 = some .eq ↔ Flt.D.order p' 0 = some .eq := by
  rcases h with rfl | ⟨h1, h2⟩
  · exact Iff.rfl
  · exact ⟨fun e => absurd (order_nn e).1 h1, fun e => absurd (order_nn e).1 h2⟩
/-- the line through some points: its slope, its start, how well it fits -/
def FitR (l : List (Nat × Nat)) (sl st ft : Nat) : Prop := if l.length = 0 then sl = 0 ∧ st = 0 ∧ ft = 0 else ∃ sx sy ma mb p q s m t, SumTo 0 (l.map Prod.fst) l.length sx ∧ SumTo 0 (l.map Prod.snd) l.length sy ∧ FR (Flt.D.div sx (fromInt ((l.length : Nat) : Int))) ma ∧ FR (Flt.D.div sy (fromInt ((l.length : Nat) : Int))) mb ∧ PQ ma mb l l.length p q s ∧
  (if Flt.D.order p 0 = some .eq then sl = 0 else FR (Flt.D.div q p) sl) ∧ FR (Flt.D.mul sl ma) m ∧ FR (Flt.D.sub mb m) st ∧ FR (Flt.D.mul p s) t ∧ (if Flt.D.order t 0 = some .eq then ft = 0 else ∃ qq, FR (Flt.D.mul q q) qq ∧ FR (Flt.D.div qq t) ft)
theorem FitR.sim {l : List (Nat × Nat)} {sl st ft sl' st' ft' : Nat} (h : FitR l sl st ft) (h' : FitR l sl' st' ft') : Sim sl sl' ∧ Sim st st' ∧ Sim ft ft' := by
  unfold FitR at h h'
  by_cases h0 : l.length = 0
  · rw [if_pos h0] at h h'
    obtain ⟨rfl, rfl, rfl⟩ := h
    obtain ⟨rfl, rfl, rfl⟩ := h'
    exact ⟨.refl _, .refl _, .refl _⟩
  · rw [if_neg h0] at h h'
    obtain ⟨sx, sy, ma, mb, p, q, s, m, t, a1, a2, a3, a4, a5, a6, a7, a8, a9, a10⟩ := h
    obtain ⟨sx', sy', ma', mb', p', q', s', m', t', b1, b2, b3, b4, b5, b6, b7, b8, b9, b10⟩ := h'
    have c1 := SumTo.sim a1 b1
    have c2 := SumTo.sim a2 b2
    have c3 : Sim ma ma' := sim2 div_nan c1 (.refl _) a3 b3
    have c4 : Sim mb mb' := sim2 div_nan c2 (.refl _) a4 b4
    obtain ⟨c5, c6, c7⟩ := PQ.sim c3 c4 a5 b5
    have c8 : Sim sl sl' := by
      by_cases hp : Flt.D.order p 0 = some .eq
      · rw [if_pos hp] at a6; rw [if_pos ((eq0_sim c5).1 hp)] at b6; rw [a6, b6]; exact .refl _
      · rw [if_neg hp] at a6; rw [if_neg (fun e => hp ((eq0_sim c5).2 e))] at b6; exact sim2 div_nan c6 c5 a6 b6
    have c9 : Sim t t' := sim2 mul_nan c5 c7 a9 b9
    refine ⟨c8, sim2 sub_nan c4 (sim2 mul_nan c8 c3 a7 b7) a8 b8, ?_⟩
    by_cases ht : Flt.D.order t 0 = some .eq
    · rw [if_pos ht] at a10; rw [if_pos ((eq0_sim c9).1 ht)] at b10; rw [a10, b10]; exact .refl _
    · rw [if_neg ht] at a10; rw [if_neg (fun e => ht ((eq0_sim c9).2 e))] at b10
      obtain ⟨u, u1, u2⟩ := a10
      obtain ⟨v, v1, v2⟩ := b10
      exact sim2 div_nan (sim2 mul_nan c6 c6 u1 v1) c9 u2 v2
/-- the product of the points -/
def TurnTo (l : List (Nat × Nat)) : Nat → Nat → Nat → Prop
  | 0, u, v => u = 4607182418800017408 ∧ v = 0
  | i + 1, u, v => ∃ u0 v0 ac bd ad bc, TurnTo l i u0 v0 ∧ FR (Flt.D.mul u0 (el l i).1) ac ∧ FR (Flt.D.mul v0 (el l i).2) bd ∧ FR (Flt.D.sub ac bd) u ∧ FR (Flt.D.mul u0 (el l i).2) ad ∧ FR (Flt.D.mul v0 (el l i).1) bc ∧ FR (Flt.D.add ad bc) v
theorem TurnTo.sim {l : List (Nat × Nat)} : ∀ {i u v u' v' : Nat}, TurnTo l i u v → TurnTo l i u' v' → Sim u u' ∧ Sim v v'
  | 0, _, _, _, _, ⟨h1, h2⟩, ⟨k1, k2⟩ => ⟨.inl (h1.trans k1.symm), .inl (h2.trans k2.symm)⟩
  | _ + 1, _, _, _, _, ⟨_, _, _, _, _, _, h0, h1, h2, h3, h4, h5, h6⟩, ⟨_, _, _, _, _, _, k0, k1, k2, k3, k4, k5, k6⟩ => by
    obtain ⟨e1, e2⟩ := TurnTo.sim h0 k0
    exact ⟨sim2 sub_nan (sim2 mul_nan e1 (.refl _) h1 k1) (sim2 mul_nan e2 (.refl _) h2 k2) h3 k3, sim2 add_nan (sim2 mul_nan e1 (.refl _) h4 k4) (sim2 mul_nan e2 (.refl _) h5 k5) h6 k6⟩
theorem sumTo_map {l : List (Nat × Nat)} {f : Nat × Nat → Nat} {a i b r : Nat} (h : SumTo a (l.map f) i b) (hi : i < l.length) (hr : FR (Flt.D.add b (f (el l i))) r) : SumTo a (l.map f) (i + 1) r := ⟨b, h, by rw [el_map hi]; exact hr⟩
end Go.Eng
