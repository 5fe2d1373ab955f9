/- What a group's numbers come to, and one element of a list that is turned. Seat-free. -/
import Derived.Test.YtegpcbckiehleaaDoorSGr2
namespace Go.Eng
open Go.RowKit Go.OrdPure Go.Flt
theorem el_set_here {α : Type} [Inhabited α] {xs : List α} {i : Nat} {u : α} (hi : i < xs.length) : el (xs.set i u) i = u := by rw [el_eq (by rw [List.length_set]; exact hi)]; simp
theorem el_set_off {α : Type} [Inhabited α] {xs : List α} {i j : Nat} {u : α} (h : i ≠ j) : el (xs.set i u) j = el xs j := by simp [el, List.getD_eq_getElem?_getD, List.getElem?_set_ne h]
theorem set_el {α : Type} [Inhabited α] (xs : List α) (i : Nat) (hi : i < xs.length) : xs.set i (el xs i) = xs := by rw [el_eq hi]; exact List.set_getElem_self hi
section
variable {w w' : World} {lo b c i : Nat} {GL : List Grp} {u : Grp}
theorem El1.start (h : OB w.heap lo 44 8 b c (flat enG GL)) (hi : i < GL.length) : OB w.heap lo 44 8 b c (flat enG (GL.set i (el GL i))) := by rw [set_el GL i hi]; exact h
theorem El1.cells (h : OB w.heap lo 44 8 b c (flat enG (GL.set i u))) (hi : i < GL.length) : Cells w.heap b (0 + i * 8) (enG u) := by
  have := h.cells.elem enG_len (i := i) (by rw [List.length_set]; exact hi)
  rwa [el_set_here hi] at this
theorem e_stEl {P : Program} {n : Nat} {σ : Nat → Value} {ty t : TypeId} {K : Value → World → Prop} {x y : Operand} {f : Nat} {v : Value} {u' : Grp} (hi : i < GL.length) (hs : SZ P t 1) (hx : ev n σ x = .pointer (some ⟨b, 0 + i * 8 + f, none⟩)) (hy : ev n σ y = v) (hv : v.cells.toList = [v]) (h1 : v.oneCell' = true) (ho : OB w.heap lo 44 8 b c (flat enG (GL.set i u)))
    (hf : f < 8) (hu : enG u' = (enG u).set f v)
    (kk : ∀ w' o, Pt w w' b o → OB w'.heap lo 44 8 b c (flat enG (GL.set i u')) → K undef w') : Eff P (ev n σ) w (.store t x y) ty K := by
  refine e_stOF (u := u') enG_len hs hx hy hv h1 ho (by rw [List.length_set]; exact hi) hf (by rw [el_set_here hi]; exact hu) fun w' o hp hO => kk w' o hp ?_
  rwa [List.set_set] at hO
theorem Mod.grownBy {b : Nat} (h : Mod (fun k => k = b) w w') : w.grownBy w' (some b) := ⟨h.os, h.tape, h.output, h.size, fun i hi hne => h.block i hi fun e => hne (by rw [e])⟩
end
/-! sums, means, spreads: any NaN may come -/
def SumTo (a : Nat) (l : List Nat) : Nat → Nat → Prop
  | 0, r => r = a
  | i + 1, r => ∃ b, SumTo a l i b ∧ FR (Flt.D.add b (el l i)) r
def SqTo (m : Nat) (a : Nat) (l : List Nat) : Nat → Nat → Prop
  | 0, r => r = a
  | i + 1, r => ∃ b d p, SqTo m a l i b ∧ FR (Flt.D.sub (el l i) m) d ∧ FR (Flt.D.mul d d) p ∧ FR (Flt.D.add b p) r
def minTo (l : List Nat) (i : Nat) : Nat := (l.take i).foldl minF (el l 0)
def maxTo (l : List Nat) (i : Nat) : Nat := (l.take i).foldl maxF (el l 0)
theorem minTo_succ {l : List Nat} {i : Nat} (h : i < l.length) : minTo l (i + 1) = minF (minTo l i) (el l i) := by unfold minTo; rw [take_succ_el h, List.foldl_append]; rfl
theorem maxTo_succ {l : List Nat} {i : Nat} (h : i < l.length) : maxTo l (i + 1) = maxF (maxTo l i) (el l i) := by unfold maxTo; rw [take_succ_el h, List.foldl_append]; rfl
theorem minTo_NN {l : List Nat} (h0 : 0 < l.length) (h : ∀ x ∈ l, NN x) : ∀ i, i ≤ l.length → NN (minTo l i)
  | 0, _ => h _ (el_mem' h0)
  | i + 1, hi => by rw [minTo_succ (by omega)]; exact minF_NN (minTo_NN h0 h i (by omega)) (h _ (el_mem' (by omega)))
theorem maxTo_NN {l : List Nat} (h0 : 0 < l.length) (h : ∀ x ∈ l, NN x) : ∀ i, i ≤ l.length → NN (maxTo l i)
  | 0, _ => h _ (el_mem' h0)
  | i + 1, hi => by rw [maxTo_succ (by omega)]; exact maxF_NN (maxTo_NN h0 h i (by omega)) (h _ (el_mem' (by omega)))
/-- behind some numbers of the first part -/
def Each1 (l : List Nat) (g : Grp) (i : Nat) (u : Grp) : Prop := ∃ s, SumTo g.sum l i s ∧ u = { g with numbers := (l.length : Nat), sum := s, least := minTo l i, greatest := maxTo l i }
/-- behind the first part -/
def Part1 (l : List Nat) (g u : Grp) : Prop := ∃ u0 m, Each1 l g l.length u0 ∧ FR (Flt.D.div u0.sum (fromInt ((l.length : Nat) : Int))) m ∧ u = { u0 with mean := m }
def Each2 (l : List Nat) (g : Grp) (i : Nat) (u : Grp) : Prop := ∃ q, SqTo g.mean g.spread l i q ∧ u = { g with spread := q }
def Part2 (l : List Nat) (g u : Grp) : Prop := ∃ u0 v r, Each2 l g l.length u0 ∧ FR (Flt.D.div u0.spread (fromInt ((l.length : Nat) : Int))) v ∧ FR (Flt.D.sqrt v) r ∧ u = { u0 with spread := r }
def IsFill (l : List Nat) (g u : Grp) : Prop := if l.length = 0 then u = g else ∃ u0, Part1 l g u0 ∧ Part2 l u0 u
/-- how far the parts are -/
def PartJ (l : List Nat) (g : Grp) (j : Nat) (u : Grp) : Prop := if j = 0 then u = g else if j = 1 then Part1 l g u else ∃ u0, Part1 l g u0 ∧ Part2 l u0 u
/-- the numbers of some tuples' column -/
def numsL (c : Nat) (P : List Tup) : List Nat := P.filterMap fun t => num (el t c)
theorem numsL_snoc (c : Nat) (P : List Tup) (t : Tup) : numsL c (P ++ [t]) = numsL c P ++ (match num (el t c) with | some x => [x] | none => []) := by
  unfold numsL; rw [List.filterMap_append]; congr 1
  cases h : num (el t c) <;> simp [h]
theorem numsL_some {c : Nat} {P : List Tup} {t : Tup} (h : (num (el t c)).isSome = true) : numsL c (P ++ [t]) = numsL c P ++ [(num (el t c)).getD 0] := by
  rw [numsL_snoc]
  cases h' : num (el t c) with
  | none => rw [h'] at h; cases h
  | some x => rfl
theorem numsL_none {c : Nat} {P : List Tup} {t : Tup} (h : (num (el t c)).isSome = false) : numsL c (P ++ [t]) = numsL c P := by
  rw [numsL_snoc]
  cases h' : num (el t c) with
  | none => simp
  | some x => rw [h'] at h; cases h
theorem numsL_len (c : Nat) (P : List Tup) : (numsL c P).length ≤ P.length := List.length_filterMap_le _ _
theorem numsL_NN (c : Nat) (P : List Tup) : ∀ x ∈ numsL c P, NN x := fun x hx => by
  obtain ⟨t, _, e⟩ := List.mem_filterMap.1 hx
  exact numL_NN e
def ok60 (g : Grp) (x : Nat) (u : Grp) : Prop := ∃ s, FR (Flt.D.add g.sum x) s ∧ u = { g with sum := s, least := minF g.least x, greatest := maxF g.greatest x }
def ok61 (g u : Grp) : Prop := ∃ m, FR (Flt.D.div g.sum (fromInt g.numbers)) m ∧ u = { g with mean := m }
def ok63 (g : Grp) (x : Nat) (u : Grp) : Prop := ∃ d p q, FR (Flt.D.sub x g.mean) d ∧ FR (Flt.D.mul d d) p ∧ FR (Flt.D.add g.spread p) q ∧ u = { g with spread := q }
def ok64 (g u : Grp) : Prop := ∃ v r, FR (Flt.D.div g.spread (fromInt g.numbers)) v ∧ FR (Flt.D.sqrt v) r ∧ u = { g with spread := r }
section
variable {l : List Nat} {g u u' : Grp} {k : Nat}
theorem Each1.start (h : u = { g with numbers := (l.length : Nat), least := el l 0, greatest := el l 0 }) : Each1 l g 0 u := ⟨g.sum, rfl, h⟩
theorem Each1.nn (h : Each1 l g k u) (h0 : 0 < l.length) (hN : ∀ x ∈ l, NN x) (hk : k ≤ l.length) : NN u.least ∧ NN u.greatest := by
  obtain ⟨s, _, rfl⟩ := h
  exact ⟨minTo_NN h0 hN k hk, maxTo_NN h0 hN k hk⟩
theorem Each1.step (h : Each1 l g k u) (hk : k < l.length) (ho : ok60 u (el l k) u') : Each1 l g (k + 1) u' := by
  obtain ⟨s, hs, rfl⟩ := h
  obtain ⟨s2, hs2, rfl⟩ := ho
  exact ⟨s2, ⟨s, hs, hs2⟩, by rw [minTo_succ hk, maxTo_succ hk]⟩
theorem Part1.of (h : Each1 l g k u) (hk : k = l.length) (ho : ok61 u u') : Part1 l g u' := by
  subst hk
  obtain ⟨m, hm, rfl⟩ := ho
  refine ⟨u, m, h, ?_, rfl⟩
  obtain ⟨s, _, rfl⟩ := h
  exact hm
theorem Each2.start (h : u = g) : Each2 l g 0 u := ⟨g.spread, rfl, h⟩
theorem Each2.step (h : Each2 l g k u) (ho : ok63 u (el l k) u') : Each2 l g (k + 1) u' := by
  obtain ⟨q, hq, rfl⟩ := h
  obtain ⟨d, p, q2, h1, h2, h3, rfl⟩ := ho
  exact ⟨q2, ⟨q, d, p, hq, h1, h2, h3⟩, rfl⟩
theorem Part2.of (h : Each2 l g k u) (hn : g.numbers = (l.length : Nat)) (hk : k = l.length) (ho : ok64 u u') : Part2 l g u' := by
  subst hk
  obtain ⟨v, r, h1, h2, rfl⟩ := ho
  refine ⟨u, v, r, h, ?_, h2, rfl⟩
  obtain ⟨q, _, rfl⟩ := h
  rw [← hn]; exact h1
theorem Part1.numbers (h : Part1 l g u) : u.numbers = (l.length : Nat) := by
  obtain ⟨u0, m, ⟨s, _, rfl⟩, _, rfl⟩ := h; rfl
theorem PartJ.fill (h : PartJ l g k u) (hk : k = 2) (h0 : 0 < l.length) : IsFill l g u := by
  subst hk
  unfold IsFill; rw [if_neg (by omega)]
  exact h
theorem IsFill.none (h : l.length = 0) (e : u = g) : IsFill l g u := by unfold IsFill; rw [if_pos h]; exact e
end
theorem tp_take_succ {M : List Row} {j : Nat} (h : j < M.length) : tp (M.take (j + 1)) = tp (M.take j) ++ [(el M j).2] := by rw [take_succ_el h]; simp [tp]
theorem setL_len (P : List Tup) : (setL P).length ≤ P.length := Nat.le_trans (ddL_len _) (Nat.le_of_eq (srt_length _))
theorem grp_mem {P : List Tup} {ls : List Int} {A : Acc} (h : A.map gT = grpL ls P) : ∀ g ∈ A, tp g.2 = (setL P).filter (fun t => decide (cutL t ls = g.1.2)) := fun g hg => by
  have h1 : gT g ∈ grpL ls P := by rw [← h]; exact List.mem_map_of_mem hg
  obtain ⟨k, _, e⟩ := List.mem_map.1 h1
  have e1 : k = g.1.2 := congrArg Prod.fst e
  have e2 : (setL P).filter (fun t => decide (cutL t ls = k)) = tp g.2 := congrArg Prod.snd e
  rw [← e2, e1]
theorem grp_len {P : List Tup} {ls : List Int} {A : Acc} (h : A.map gT = grpL ls P) : ∀ g ∈ A, g.2.length ≤ P.length := fun g hg => by
  have := congrArg List.length (grp_mem h g hg)
  rw [tp_len] at this
  rw [this]
  exact Nat.le_trans (List.length_filter_le _ _) (setL_len P)
end Go.Eng
