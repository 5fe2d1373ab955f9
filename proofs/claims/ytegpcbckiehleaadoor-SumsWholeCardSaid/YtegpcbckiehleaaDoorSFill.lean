/- What a group's numbers come to, by the document; alike up to NaNs and the sign of noughts. Seat-free. -/
import Derived.Test.YtegpcbckiehleaaDoorSSet
namespace Go.Eng
open Go.RowKit Go.OrdPure Go.Flt
theorem x_moveBB {P : Program} {n : Nat} {σ : Nat → Value} {w : World} {ty : TypeId} {x : Operand} {b : Bool} (hx : ev n σ x = .bool b) : Ex P (ev n σ) w (.move x) ty (.bool (decide (b = true))) := by
  have := x_move (P := P) (w := w) (ty := ty) hx
  cases b <;> exact this
/-- the same, or both none -/
def Sim (x y : Nat) : Prop := x = y ∨ (¬ NN x ∧ ¬ NN y)
theorem Sim.refl (x : Nat) : Sim x x := .inl rfl
theorem nn_read {x : Nat} (h : ¬ NN x) : ∃ s t, Flt.D.read x = .nan s t := by
  unfold NN at h
  cases hr : Flt.D.read x with
  | nan s t => exact ⟨s, t, rfl⟩
  | number s m p => rw [hr] at h; exact absurd rfl h
  | infinity s => rw [hr] at h; exact absurd rfl h
theorem add_nan {a b : Nat} (h : ¬ NN a ∨ ¬ NN b) : Flt.D.add a b = none := by
  unfold Ieee.Format.add
  rcases h with h | h <;> obtain ⟨s, t, e⟩ := nn_read h <;> rw [e]
  · rfl
  · cases Flt.D.read a <;> rfl
theorem sub_nan {a b : Nat} (h : ¬ NN a ∨ ¬ NN b) : Flt.D.sub a b = none := by
  unfold Ieee.Format.sub
  rcases h with h | h <;> obtain ⟨s, t, e⟩ := nn_read h <;> rw [e]
  · rfl
  · cases Flt.D.read a <;> rfl
theorem mul_nan {a b : Nat} (h : ¬ NN a ∨ ¬ NN b) : Flt.D.mul a b = none := by
  unfold Ieee.Format.mul
  rcases h with h | h <;> obtain ⟨s, t, e⟩ := nn_read h <;> rw [e]
  · rfl
  · cases Flt.D.read a <;> rfl
theorem div_nan {a b : Nat} (h : ¬ NN a ∨ ¬ NN b) : Flt.D.div a b = none := by
  unfold Ieee.Format.div
  rcases h with h | h <;> obtain ⟨s, t, e⟩ := nn_read h <;> rw [e]
  · rfl
  · cases Flt.D.read a <;> rfl
theorem sqrt_nan {a : Nat} (h : ¬ NN a) : Flt.D.sqrt a = none := by
  unfold Ieee.Format.sqrt
  obtain ⟨s, t, e⟩ := nn_read h
  rw [e]; rfl
theorem FR.sim {o : Option Nat} {r r' : Nat} (h : FR o r) (h' : FR o r') : Sim r r' := by
  rcases h with h | ⟨h, n⟩ <;> rcases h' with h' | ⟨h', n'⟩
  · rw [h] at h'; exact .inl (Option.some.inj h')
  · rw [h] at h'; cases h'
  · rw [h] at h'; cases h'
  · exact .inr ⟨n, n'⟩
theorem FR.nan {o : Option Nat} {r : Nat} (h : FR o r) (e : o = none) : ¬ NN r := by
  rcases h with h | ⟨_, n⟩
  · rw [e] at h; cases h
  · exact n
theorem sim2 {f : Nat → Nat → Option Nat} (hf : ∀ {a b}, (¬ NN a ∨ ¬ NN b) → f a b = none) {a a' b b' r r' : Nat} (ha : Sim a a') (hb : Sim b b') (h : FR (f a b) r) (h' : FR (f a' b') r') : Sim r r' := by
  rcases ha with rfl | ⟨n1, n2⟩
  · rcases hb with rfl | ⟨n1, n2⟩
    · exact h.sim h'
    · exact .inr ⟨h.nan (hf (.inr n1)), h'.nan (hf (.inr n2))⟩
  · exact .inr ⟨h.nan (hf (.inl n1)), h'.nan (hf (.inl n2))⟩
theorem sim1 {a a' r r' : Nat} (ha : Sim a a') (h : FR (Flt.D.sqrt a) r) (h' : FR (Flt.D.sqrt a') r') : Sim r r' := by
  rcases ha with rfl | ⟨n1, n2⟩
  · exact h.sim h'
  · exact .inr ⟨h.nan (sqrt_nan n1), h'.nan (sqrt_nan n2)⟩
theorem SumTo.sim {a : Nat} {l : List Nat} : ∀ {i r r' : Nat}, SumTo a l i r → SumTo a l i r' → Sim r r'
  | 0, _, _, h, h' => .inl (h.trans h'.symm)
  | _ + 1, _, _, ⟨_, h1, h2⟩, ⟨_, k1, k2⟩ => sim2 add_nan (SumTo.sim h1 k1) (Sim.refl _) h2 k2
theorem SqTo.sim {m m' a : Nat} {l : List Nat} (hm : Sim m m') : ∀ {i r r' : Nat}, SqTo m a l i r → SqTo m' a l i r' → Sim r r'
  | 0, _, _, h, h' => .inl (h.trans h'.symm)
  | _ + 1, _, _, ⟨_, _, _, h1, h2, h3, h4⟩, ⟨_, _, _, k1, k2, k3, k4⟩ =>
    have hd := sim2 sub_nan (Sim.refl _) hm h2 k2
    sim2 add_nan (SqTo.sim hm h1 k1) (sim2 mul_nan hd hd h3 k3) h4 k4
theorem like_sim {x y : Nat} (h : Sim x y) : likeB x y = true := by
  unfold likeB
  rcases h with rfl | ⟨h1, h2⟩
  · by_cases hx : NN x
    · rw [decide_eq_true ((order_self x).2 hx)]; rfl
    · rw [decide_eq_true (p := ¬ Flt.D.order x x = some .eq) (fun e => hx ((order_self x).1 e))]; simp
  · rw [decide_eq_true (p := ¬ Flt.D.order x x = some .eq) (fun e => h1 ((order_self x).1 e)), decide_eq_true (p := ¬ Flt.D.order y y = some .eq) (fun e => h2 ((order_self y).1 e))]; simp
theorem like_kv {x y : Nat} (hx : NN x) (hy : NN y) (h : kv x = kv y) : likeB x y = true := by
  unfold likeB; rw [decide_eq_true ((order_eq hx hy).2 h)]; rfl
/-! the least and the greatest, by the document -/
def minR (l : List Nat) (i : Nat) : Nat := (l.take i).foldl (fun m x => if Flt.D.order x m = some .lt then x else m) (el l 0)
def maxR (l : List Nat) (i : Nat) : Nat := (l.take i).foldl (fun m x => if Flt.D.order x m = some .gt then x else m) (el l 0)
theorem minR_succ {l : List Nat} {i : Nat} (h : i < l.length) : minR l (i + 1) = if Flt.D.order (el l i) (minR l i) = some .lt then el l i else minR l i := by unfold minR; rw [take_succ_el h, List.foldl_append]; rfl
theorem maxR_succ {l : List Nat} {i : Nat} (h : i < l.length) : maxR l (i + 1) = if Flt.D.order (el l i) (maxR l i) = some .gt then el l i else maxR l i := by unfold maxR; rw [take_succ_el h, List.foldl_append]; rfl
theorem min_alike {l : List Nat} (h0 : 0 < l.length) (h : ∀ x ∈ l, NN x) : ∀ i, i ≤ l.length → NN (minR l i) ∧ kv (minR l i) = kv (minTo l i)
  | 0, _ => ⟨h _ (el_mem' h0), rfl⟩
  | i + 1, hi => by
    obtain ⟨h1, h2⟩ := min_alike h0 h i (by omega)
    have h3 := minTo_NN h0 h i (by omega)
    have hx : NN (el l i) := h _ (el_mem' (by omega))
    rw [minR_succ (by omega), minTo_succ (by omega), minF_kv h3 hx, ← h2]
    split
    · rename_i hh; have := (order_lt hx h1).1 hh; exact ⟨hx, by omega⟩
    · rename_i hh; have h4 : ¬ kv (el l i) < kv (minR l i) := fun e => hh ((order_lt hx h1).2 e); exact ⟨h1, by omega⟩
theorem max_alike {l : List Nat} (h0 : 0 < l.length) (h : ∀ x ∈ l, NN x) : ∀ i, i ≤ l.length → NN (maxR l i) ∧ kv (maxR l i) = kv (maxTo l i)
  | 0, _ => ⟨h _ (el_mem' h0), rfl⟩
  | i + 1, hi => by
    obtain ⟨h1, h2⟩ := max_alike h0 h i (by omega)
    have h3 := maxTo_NN h0 h i (by omega)
    have hx : NN (el l i) := h _ (el_mem' (by omega))
    rw [maxR_succ (by omega), maxTo_succ (by omega), maxF_kv h3 hx, ← h2]
    split
    · rename_i hh; have := (order_gt hx h1).1 hh; exact ⟨hx, by omega⟩
    · rename_i hh; have h4 : ¬ kv (maxR l i) < kv (el l i) := fun e => hh ((order_gt hx h1).2 e); exact ⟨h1, by omega⟩
/-- the document's group with what its numbers come to -/
def FillR (l : List Nat) (g u : Grp) : Prop := if l.length = 0 then u = g else ∃ s m q v r, SumTo 0 l l.length s ∧ FR (Flt.D.div s (fromInt ((l.length : Nat) : Int))) m ∧ SqTo m 0 l l.length q ∧ FR (Flt.D.div q (fromInt ((l.length : Nat) : Int))) v ∧ FR (Flt.D.sqrt v) r ∧
  u = { g with numbers := (l.length : Nat), sum := s, mean := m, spread := r, least := minR l l.length, greatest := maxR l l.length }
/-- groups that Same takes for the same -/
structure AlikeG (u v : Grp) : Prop where
  key : u.key = v.key
  count : u.count = v.count
  numbers : u.numbers = v.numbers
  sum : likeB u.sum v.sum = true
  mean : likeB u.mean v.mean = true
  spread : likeB u.spread v.spread = true
  least : likeB u.least v.least = true
  greatest : likeB u.greatest v.greatest = true
theorem AlikeG.of {u v : Grp} (h1 : u.key = v.key) (h2 : u.count = v.count) (h3 : u.numbers = v.numbers) (h4 : Sim u.sum v.sum) (h5 : Sim u.mean v.mean) (h6 : Sim u.spread v.spread) (h7 : likeB u.least v.least = true) (h8 : likeB u.greatest v.greatest = true) : AlikeG u v :=
  ⟨h1, h2, h3, like_sim h4, like_sim h5, like_sim h6, h7, h8⟩
/-- an empty group of a key -/
def g0 (q : Option Addr) (c : Nat) (key : Tup) (n : Int) : Grp := ⟨q, c, key, n, 0, 0, 0, 0, 0, 0⟩
theorem fill_alike {l : List Nat} {q q' : Option Addr} {c c' : Nat} {key : Tup} {n : Int} {u v : Grp} (hN : ∀ x ∈ l, NN x) (h : IsFill l (g0 q c key n) u) (h' : FillR l (g0 q' c' key n) v) : AlikeG u v := by
  unfold IsFill at h
  unfold FillR at h'
  by_cases h0 : l.length = 0
  · rw [if_pos h0] at h h'
    subst h; subst h'
    exact .of rfl rfl rfl (.refl _) (.refl _) (.refl _) (like_sim (.refl _)) (like_sim (.refl _))
  · rw [if_neg h0] at h h'
    obtain ⟨u0, ⟨u1, m, ⟨s, hs, rfl⟩, hm, rfl⟩, ⟨u2, v1, r, ⟨q1, hq, rfl⟩, hv, hr, rfl⟩⟩ := h
    obtain ⟨s', m', q2, v2, r', ks, km, kq, kv', kr, rfl⟩ := h'
    have hs' : Sim s s' := SumTo.sim hs ks
    have hm' : Sim m m' := sim2 div_nan hs' (.refl _) hm km
    have hq' : Sim q1 q2 := SqTo.sim hm' hq kq
    have hr' : Sim r r' := sim1 (sim2 div_nan hq' (.refl _) hv kv') hr kr
    have h1 := min_alike (by omega) hN l.length (Nat.le_refl _)
    have h2 := max_alike (by omega) hN l.length (Nat.le_refl _)
    exact .of rfl rfl rfl hs' hm' hr' (like_kv (minTo_NN (by omega) hN _ (Nat.le_refl _)) h1.1 h1.2.symm) (like_kv (maxTo_NN (by omega) hN _ (Nat.le_refl _)) h2.1 h2.2.symm)
end Go.Eng
