/- The document's sets: a row put in where it belongs. Seat-free. -/
import Derived.Test.YtegpcbckiehleaaDoorSLent
namespace Go.Eng
open Go.RowKit Go.OrdPure Go.Flt
/-- rows of the call's own -/
structure RowsW (h : Array Obj) (lo : Nat) (R : List Row) : Prop where
  own : ∀ x ∈ R, Own h lo 9 1 (rv x) x.2.length (flat enS x.2)
section
variable {w w' : World} {lo lo2 : Nat} {R : List Row} {row : Option Nat} {Kd : Nat}
theorem RowsW.nil (h : Array Obj) (lo : Nat) : RowsW h lo [] := ⟨fun _ hx => absurd hx (by simp)⟩
theorem RowsW.ext (h : RowsW w.heap lo R) (hx : Ext w w') : RowsW w'.heap lo R := ⟨fun x hm => (h.own x hm).ext hx⟩
theorem RowsW.gk (h : RowsW w.heap lo R) (hg : w.grownBy w' row) (hr : RowK w.heap row Kd) (hK : 9 + 3 ≠ Kd) : RowsW w'.heap lo R := ⟨fun x hm => (h.own x hm).gk hg hr hK⟩
theorem RowsW.snoc {x : Row} (h : RowsW w.heap lo R) (ho : Own w.heap lo 9 1 (rv x) x.2.length (flat enS x.2)) : RowsW w.heap lo (R ++ [x]) :=
  ⟨fun y hy => by
    rcases List.mem_append.1 hy with hy | hy
    · exact h.own y hy
    · rw [List.mem_singleton] at hy; subst hy; exact ho⟩
theorem RowsW.weak (h : RowsW w.heap lo2 R) (hl : lo ≤ lo2) : RowsW w.heap lo R := ⟨fun x hx => (h.own x hx).weak hl⟩
theorem RowsW.rowsP (h : RowsW w.heap lo R) : RowsP w.heap R := fun x hx => (h.own x hx).src
theorem RowsW.sub {R' : List Row} (h : RowsW w.heap lo R) (hs : ∀ x ∈ R', x ∈ R) : RowsW w.heap lo R' := ⟨fun x hx => h.own x (hs x hx)⟩
end
/-- something put in at a place -/
def insAt {α : Type} (R : List α) (k : Nat) (x : α) : List α := R.take k ++ x :: R.drop k
theorem insAt_len {α : Type} (R : List α) (k : Nat) (x : α) (h : k ≤ R.length) : (insAt R k x).length = R.length + 1 := by
  unfold insAt; simp only [List.length_append, List.length_cons, List.length_take, List.length_drop]; omega
theorem insAt_mem {α : Type} (R : List α) (k : Nat) (x y : α) : y ∈ insAt R k x ↔ y = x ∨ y ∈ R := by
  unfold insAt
  rw [List.mem_append, List.mem_cons]
  conv => rhs; rw [← List.take_append_drop k R, List.mem_append]
  constructor
  · rintro (h | h | h)
    · exact .inr (.inl h)
    · exact .inl h
    · exact .inr (.inr h)
  · rintro (h | h | h)
    · exact .inr (.inl h)
    · exact .inl h
    · exact .inr (.inr h)
theorem insAt_el {α : Type} [Inhabited α] {R F : List α} {k : Nat} {x : α} (hk : k ≤ R.length) (hF : F.length = R.length + 1) (h1 : ∀ j, j < k → el F j = el R j) (h2 : el F k = x) (h3 : ∀ j, k ≤ j → j < R.length → el F (j + 1) = el R j) : F = insAt R k x := by
  refine list_ext_el (by rw [insAt_len R k x hk]; exact hF) fun i hi => ?_
  unfold insAt
  rcases Nat.lt_trichotomy i k with h | h | h
  · rw [h1 i h, el_append_left (by rw [List.length_take]; omega)]
    simp [el, List.getD_eq_getElem?_getD, List.getElem?_take, h]
  · subst h
    have e : (R.take i).length = i := by rw [List.length_take]; omega
    have := el_append_right (xs := R.take i) (ys := x :: R.drop i) (i := 0)
    rw [Nat.add_zero, e] at this
    rw [h2, this]; rfl
  · have e : (R.take k).length = k := by rw [List.length_take]; omega
    have := el_append_right (xs := R.take k) (ys := x :: R.drop k) (i := i - k)
    rw [e, show k + (i - k) = i by omega] at this
    rw [this, show i = (i - 1) + 1 by omega, h3 (i - 1) (by omega) (by omega)]
    rw [show i - 1 + 1 - k = (i - 1 - k) + 1 by omega]
    show el R (i - 1) = el (R.drop k) (i - 1 - k)
    simp only [el, List.getD_eq_getElem?_getD, List.getElem?_drop]
    rw [show k + (i - 1 - k) = i - 1 by omega]
theorem insAt_strict {α : Type} [Inhabited α] {c : α → α → Int} {R : List α} {k : Nat} {x : α} (hR : R.Pairwise fun a b => c a b < 0) (hk : k ≤ R.length) (h1 : ∀ j, j < k → c (el R j) x < 0) (h2 : ∀ j, k ≤ j → j < R.length → c x (el R j) < 0) : (insAt R k x).Pairwise fun a b => c a b < 0 := by
  unfold insAt
  have ht : ∀ y ∈ R.take k, c y x < 0 := fun y hy => by
    obtain ⟨j, hj, rfl⟩ := List.getElem_of_mem hy
    rw [List.length_take] at hj
    have := h1 j (by omega)
    rw [el_eq (by omega)] at this
    rwa [List.getElem_take]
  have hd : ∀ y ∈ R.drop k, c x y < 0 := fun y hy => by
    obtain ⟨j, hj, rfl⟩ := List.getElem_of_mem hy
    rw [List.length_drop] at hj
    have := h2 (k + j) (by omega) (by omega)
    rw [el_eq (by omega)] at this
    rwa [List.getElem_drop]
  have hR' := hR
  rw [← List.take_append_drop k R] at hR'
  obtain ⟨p1, p2, p3⟩ := List.pairwise_append.1 hR'
  refine List.pairwise_append.2 ⟨p1, List.pairwise_cons.2 ⟨hd, p2⟩, fun a ha b hb => ?_⟩
  rcases List.mem_cons.1 hb with rfl | hb
  · exact ht a ha
  · exact p3 a ha b hb
/-- in a list that rises strictly all that is ahead of something that is not behind x is ahead of x -/
theorem below_all {α : Type} [Inhabited α] {c : α → α → Int} (hL : Lawful c) {R : List α} {k : Nat} {x : α} (hR : R.Pairwise fun a b => c a b < 0) (hk : k ≤ R.length) (h : 0 < k → c (el R (k - 1)) x < 0) : ∀ j, j < k → c (el R j) x < 0 := fun j hj => by
  by_cases e : j = k - 1
  · rw [e]; exact h (by omega)
  · have h1 := List.pairwise_iff_getElem.1 hR j (k - 1) (by omega) (by omega) (by omega)
    rw [← el_eq, ← el_eq] at h1
    exact hL.lt_of_lt_le h1 (Int.le_of_lt (h (by omega)))
theorem strict_tp {R : List Row} : (tp R).Pairwise (fun a b => tups a b < 0) ↔ R.Pairwise fun a b => tups a.2 b.2 < 0 := by unfold tp; exact List.pairwise_map
theorem isSet_step {R : List Row} {P : List Tup} {t : Tup} {k : Nat} {p : Option Addr × Nat} (hI : IsSet (tp R) P) (hk : k ≤ R.length) (h1 : 0 < k → tups (el R (k - 1)).2 t < 0) (h2 : ∀ j, k ≤ j → j < R.length → 0 < tups (el R j).2 t) : IsSet (tp (insAt R k (p, t))) (P ++ [t]) := by
  have hs := strict_tp.1 hI.1
  have hL : Lawful fun a b : Row => tups a.2 b.2 := tups_law.on fun x : Row => x.2
  refine ⟨strict_tp.2 (insAt_strict (c := fun a b : Row => tups a.2 b.2) hs hk (below_all hL hs hk h1) fun j hj hj2 => tups_law.pos _ _ (h2 j hj hj2)), fun z => ?_⟩
  unfold tp
  rw [List.mem_map, List.mem_append, List.mem_singleton, ← hI.2 z]
  unfold tp
  rw [List.mem_map]
  constructor
  · rintro ⟨y, hy, rfl⟩
    rcases (insAt_mem _ _ _ _).1 hy with rfl | hy
    · exact .inr rfl
    · exact .inl ⟨y, hy, rfl⟩
  · rintro (⟨y, hy, rfl⟩ | rfl)
    · exact ⟨y, (insAt_mem _ _ _ _).2 (.inr hy), rfl⟩
    · exact ⟨_, (insAt_mem _ _ _ _).2 (.inl rfl), rfl⟩
theorem isSet_same {R : List Row} {P : List Tup} {t : Tup} (hI : IsSet (tp R) P) (h : t ∈ tp R) : IsSet (tp R) (P ++ [t]) := ⟨hI.1, fun z => by
  rw [List.mem_append, List.mem_singleton, hI.2 z]
  constructor
  · exact .inl
  · rintro (h1 | rfl)
    · exact h1
    · exact (hI.2 _).1 h⟩
end Go.Eng
