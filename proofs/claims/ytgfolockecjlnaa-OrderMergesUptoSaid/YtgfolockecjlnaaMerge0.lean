/- Lists that rise, put together: the heads that are in the heap, and what comes out. -/
import Derived.Test.YtgfolockecjlnaaHeads
namespace Go.Proofs.Ytgfolockecjlnaa
open Go.RowKit Go.Eng Go.OrdPure Go.HeapPure
abbrev Ts := List (Int × Int)
def fin (j : Nat) : Fin 4294967296 := if h : j < 4294967296 then ⟨j, h⟩ else 0
theorem fin_eq {j : Nat} (h : j < 4294967296) : fin j = ⟨j, h⟩ := dif_pos h
def one (ls : List Ts) (j : Nat) : Ts → List Hd
  | [] => []
  | y :: t => [(y, fin j, (el ls j).length - (t.length + 1))]
def hds (ls : List Ts) : Nat → List Ts → List Hd
  | _, [] => []
  | j, r :: rs => one ls j r ++ hds ls (j + 1) rs
theorem hds_append (ls : List Ts) : ∀ (a b : List Ts) (j : Nat), hds ls j (a ++ b) = hds ls j a ++ hds ls (j + a.length) b
  | [], b, j => by simp [hds]
  | r :: a, b, j => by
    rw [List.cons_append, hds, hds, hds_append ls a b (j + 1), List.append_assoc, List.length_cons, show j + 1 + a.length = j + (a.length + 1) by omega]
theorem split_el {rs : List Ts} {k : Nat} (hk : k < rs.length) : rs = rs.take k ++ el rs k :: rs.drop (k + 1) := by
  rw [← drop_el hk, List.take_append_drop]
theorem set_el {rs : List Ts} {k : Nat} (hk : k < rs.length) (t : Ts) : rs.set k t = rs.take k ++ t :: rs.drop (k + 1) := List.set_eq_take_append_cons_drop.trans (if_pos hk)
theorem hds_at (ls : List Ts) {rs : List Ts} {k : Nat} (hk : k < rs.length) (t : Ts) : hds ls 0 (rs.set k t) = hds ls 0 (rs.take k) ++ (one ls k t ++ hds ls (k + 1) (rs.drop (k + 1))) := by
  rw [set_el hk, hds_append, hds, List.length_take, Nat.zero_add, Nat.min_eq_left (by omega)]
theorem set_self {rs : List Ts} {k : Nat} (hk : k < rs.length) : rs.set k (el rs k) = rs := by rw [set_el hk, ← split_el hk]
theorem hds_perm (ls : List Ts) {rs : List Ts} {k : Nat} (hk : k < rs.length) (t : Ts) : ∃ O, (hds ls 0 rs).Perm (one ls k (el rs k) ++ O) ∧ (hds ls 0 (rs.set k t)).Perm (one ls k t ++ O) := by
  refine ⟨hds ls 0 (rs.take k) ++ hds ls (k + 1) (rs.drop (k + 1)), ?_, ?_⟩
  · have h := hds_at ls hk (el rs k)
    rw [set_self hk] at h
    rw [h, ← List.append_assoc, ← List.append_assoc]
    exact (List.perm_append_comm).append_right _
  · rw [hds_at ls hk t, ← List.append_assoc, ← List.append_assoc]
    exact (List.perm_append_comm).append_right _
theorem mem_hds (ls : List Ts) {h : Hd} : ∀ (rs : List Ts) (j : Nat), h ∈ hds ls j rs ↔ ∃ i, i < rs.length ∧ ∃ y t, el rs i = y :: t ∧ h = (y, fin (j + i), (el ls (j + i)).length - (t.length + 1))
  | [], j => by simp [hds]
  | r :: rs, j => by
    rw [hds, List.mem_append, mem_hds ls rs (j + 1)]
    constructor
    · rintro (h1 | ⟨i, hi, y, t, h1, h2⟩)
      · cases r with
        | nil => simp [one] at h1
        | cons y t =>
          rw [one, List.mem_singleton] at h1
          exact ⟨0, by simp, y, t, rfl, h1⟩
      · exact ⟨i + 1, by simpa using hi, y, t, h1, by rw [show j + (i + 1) = j + 1 + i by omega]; exact h2⟩
    · rintro ⟨i, hi, y, t, h1, h2⟩
      cases i with
      | zero =>
        have h1 : r = y :: t := h1
        subst h1
        exact .inl (by rw [one, List.mem_singleton]; exact h2)
      | succ i => exact .inr ⟨i, by simpa using hi, y, t, h1, by rw [show j + 1 + i = j + (i + 1) by omega]; exact h2⟩
theorem hds_len (ls : List Ts) : ∀ (rs : List Ts) (j : Nat), (hds ls j rs).length ≤ rs.length
  | [], j => Nat.le_refl _
  | r :: rs, j => by
    have := hds_len ls rs (j + 1)
    rw [hds, List.length_append, List.length_cons]
    cases r <;> simp [one] <;> omega
theorem srt_min {P Q : Ts} {x : Int × Int} (hP : ∀ y ∈ P, x.1 < y.1) (hQ : ∀ y ∈ Q, x.1 ≤ y.1) : srt byc (P ++ x :: Q) = x :: srt byc (P ++ Q) := by
  induction Q using Go.OrdPure.rev_ind with
  | h0 =>
    rw [List.append_nil, srt_snoc]
    have h : ∀ y ∈ srt byc P, byc x y < 0 := fun y hy => byc_lt.2 (hP y ((srt_mem y P).1 hy))
    cases hs : srt byc P with
    | nil => rfl
    | cons z zs =>
      rw [hs] at h
      simp only [ins]
      rw [if_pos (h z (by simp))]
  | h1 Q q ih =>
    have ih := ih (fun y hy => hQ y (List.mem_append_left _ hy))
    have hq := hQ q (by simp)
    rw [show P ++ x :: (Q ++ [q]) = (P ++ x :: Q) ++ [q] by simp, srt_snoc, ih, show P ++ (Q ++ [q]) = (P ++ Q) ++ [q] by simp, srt_snoc]
    simp only [ins]
    rw [if_neg (fun h => by have := byc_lt.1 h; omega)]
/-- what is left of each list -/
def Suf (ls rs : List Ts) : Prop := rs.length = ls.length ∧ ∀ k, k < rs.length → ∃ p, p + (el rs k).length = (el ls k).length ∧ el rs k = (el ls k).drop p
theorem Suf.start (ls : List Ts) : Suf ls ls := ⟨rfl, fun k _ => ⟨0, by simp, rfl⟩⟩
def Up (ls : List Ts) : Prop := ∀ k, k < ls.length → Rise byc (el ls k)
theorem Suf.rise {ls rs : List Ts} (h : Suf ls rs) (hu : Up ls) {k : Nat} (hk : k < rs.length) : Rise byc (el rs k) := by
  obtain ⟨p, _, h2⟩ := h.2 k hk
  rw [h2]
  exact (hu k (by have := h.1; omega)).sublist (List.drop_sublist _ _)
theorem Suf.set {ls rs : List Ts} (h : Suf ls rs) {k : Nat} (hk : k < rs.length) {y : Int × Int} {t : Ts} (e : el rs k = y :: t) : Suf ls (rs.set k t) := by
  refine ⟨by rw [List.length_set]; exact h.1, fun i hi => ?_⟩
  rw [List.length_set] at hi
  by_cases e1 : k = i
  · subst e1
    rw [el_set_same hk]
    obtain ⟨p, h1, h2⟩ := h.2 k hk
    rw [e] at h1 h2
    refine ⟨p + 1, by rw [List.length_cons] at h1; omega, ?_⟩
    rw [← List.drop_drop, ← h2]; rfl
  · rw [el_set_ne e1]; exact h.2 i hi
theorem flat_set_len {rs : List Ts} {k : Nat} (hk : k < rs.length) {y : Int × Int} {t : Ts} (e : el rs k = y :: t) : (rs.set k t).flatten.length + 1 = rs.flatten.length := by
  rw [set_el hk]
  conv => rhs; rw [split_el hk, e]
  simp only [List.flatten_append, List.flatten_cons, List.length_append, List.length_cons]
  omega
theorem mem_flat {rs : List Ts} {z : Int × Int} (h : z ∈ rs.flatten) : ∃ i, i < rs.length ∧ z ∈ el rs i := by
  obtain ⟨l, hl, hz⟩ := List.mem_flatten.1 h
  obtain ⟨i, hi, rfl⟩ := List.getElem_of_mem hl
  exact ⟨i, hi, by rw [el_eq hi]; exact hz⟩
/-- what comes first out of the heap comes first of all that is left -/
theorem merge_step {ls rs : List Ts} {es es' : List (Hd × Nat)} (hs : Suf ls rs) (hu : Up ls) (hn : ls.length ≤ 4294967296) (hp : HP (ah cmpH) es) (hq : (es.map Prod.fst).Perm (hds ls 0 rs)) (h0 : 0 < es.length) (he : es.Perm (el es 0 :: es')) :
    ∃ k y t, k < rs.length ∧ k < 4294967296 ∧ el rs k = y :: t ∧ (el es 0).1 = (y, fin k, (el ls k).length - (t.length + 1)) ∧ srt byc rs.flatten = y :: srt byc (rs.set k t).flatten ∧
      ((es'.map Prod.fst) ++ one ls k t).Perm (hds ls 0 (rs.set k t)) := by
  have hx : (el es 0).1 ∈ hds ls 0 rs := hq.mem_iff.1 (List.mem_map.2 ⟨el es 0, by rw [el_eq h0]; exact List.getElem_mem _, rfl⟩)
  obtain ⟨k, hk, y, t, e1, e2⟩ := (mem_hds ls rs 0).1 hx
  rw [Nat.zero_add] at e2
  have hk32 : k < 4294967296 := by have := hs.1; omega
  have hmin : ∀ h ∈ hds ls 0 rs, ¬ cmpH h (el es 0).1 < 0 := fun h hh => by
    obtain ⟨e, he1, rfl⟩ := List.mem_map.1 (hq.mem_iff.2 hh)
    obtain ⟨j, hj, rfl⟩ := List.getElem_of_mem he1
    have := hp.root (ah_swo cmpH_law) j hj
    rw [el_eq hj] at this
    exact fun hlt => this (.inl hlt)
  have hfirst : ∀ j, j < rs.length → ∀ z ∈ el rs j, y.1 ≤ z.1 ∧ (j < k → y.1 < z.1) := fun j hj z hz => by
    have hr := hs.rise hu hj
    cases hj' : el rs j with
    | nil => rw [hj'] at hz; simp at hz
    | cons a b =>
      have h1 := hmin _ ((mem_hds ls rs 0).2 ⟨j, hj, a, b, hj', rfl⟩)
      rw [e2, cmpH_lt, Nat.zero_add, fin_eq hk32, fin_eq (show j < 4294967296 by have := hs.1; omega)] at h1
      have h1 : ¬ (a.1 < y.1 ∨ a.1 = y.1 ∧ j < k) := h1
      have h2 : a.1 ≤ z.1 := by
        rw [hj'] at hz hr
        rcases List.mem_cons.1 hz with rfl | hz
        · exact Int.le_refl _
        · exact byc_le.1 ((List.pairwise_cons.1 hr).1 z hz)
      omega
  refine ⟨k, y, t, hk, hk32, e1, e2, ?_, ?_⟩
  · rw [set_el hk]
    conv => lhs; rw [split_el hk, e1]
    simp only [List.flatten_append, List.flatten_cons, List.cons_append]
    refine srt_min (fun z hz => ?_) (fun z hz => ?_)
    · obtain ⟨i, hi, hz⟩ := mem_flat hz
      rw [List.length_take] at hi
      have e : el (rs.take k) i = el rs i := by rw [el_eq (by rw [List.length_take]; omega), el_eq (by omega), List.getElem_take]
      rw [e] at hz
      exact (hfirst i (by omega) z hz).2 (by omega)
    · rcases List.mem_append.1 hz with hz | hz
      · exact (hfirst k hk z (by rw [e1]; exact List.mem_cons_of_mem _ hz)).1
      · obtain ⟨i, hi, hz⟩ := mem_flat hz
        rw [List.length_drop] at hi
        have e : el (rs.drop (k + 1)) i = el rs (k + 1 + i) := by rw [el_eq (by rw [List.length_drop]; omega), el_eq (by omega), List.getElem_drop]
        rw [e] at hz
        exact (hfirst _ (by omega) z hz).1
  · obtain ⟨O, o1, o2⟩ := hds_perm ls hk t
    rw [e1, one] at o1
    have h1 : ((el es 0).1 :: es'.map Prod.fst).Perm (hds ls 0 rs) := ((he.map Prod.fst).symm).trans hq
    rw [e2] at h1
    have h2 : (es'.map Prod.fst).Perm O := (h1.trans o1).cons_inv
    exact ((h2.append_right _).trans List.perm_append_comm).trans o2.symm
theorem hds_done {ls rs : List Ts} (h : hds ls 0 rs = []) : rs.flatten = [] := by
  rw [List.flatten_eq_nil_iff]
  intro l hl
  obtain ⟨i, hi, rfl⟩ := List.getElem_of_mem hl
  cases hc : rs[i] with
  | nil => rfl
  | cons y t =>
    have := (mem_hds ls rs 0).2 ⟨i, hi, y, t, by rw [el_eq hi]; exact hc, rfl⟩
    rw [h] at this
    simp at this
theorem hds_take {ls : List Ts} {i : Nat} (hi : i < ls.length) : hds ls 0 (ls.take (i + 1)) = hds ls 0 (ls.take i) ++ one ls i (el ls i) := by
  rw [take_succ_el hi, hds_append, List.length_take, Nat.min_eq_left (by omega), Nat.zero_add]
  simp [hds]
end Go.Proofs.Ytgfolockecjlnaa
