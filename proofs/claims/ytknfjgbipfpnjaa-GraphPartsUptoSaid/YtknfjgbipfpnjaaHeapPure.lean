/- Plain facts on heaps that lie in a list. No program. -/
import Derived.Test.YtknfjgbipfpnjaaOrdPure
namespace Go.HeapPure
open Go.Eng Go.OrdPure
variable {ε : Type} [Inhabited ε]
structure SWO (lt : ε → ε → Prop) : Prop where
  asym : ∀ a b, lt a b → ¬ lt b a
  le_trans : ∀ a b d, ¬ lt b a → ¬ lt d b → ¬ lt d a
variable {lt : ε → ε → Prop}
theorem el_set {es : List ε} {i j : Nat} {x : ε} (hi : i < es.length) : el (es.set i x) j = if j = i then x else el es j := by
  unfold el
  rw [List.getD_eq_getElem?_getD, List.getD_eq_getElem?_getD, List.getElem?_set]
  by_cases h : i = j
  · subst h; simp [hi]
  · have : ¬ j = i := fun e => h e.symm
    simp [h, this]
theorem el_take {es : List ε} {i n : Nat} (h : i < n) : el (es.take n) i = el es i := by
  unfold el; rw [List.getD_eq_getElem?_getD, List.getD_eq_getElem?_getD, List.getElem?_take_of_lt h]
def HP (lt : ε → ε → Prop) (es : List ε) : Prop := ∀ i, 0 < i → i < es.length → ¬ lt (el es i) (el es ((i - 1) / 2))
def UpI (lt : ε → ε → Prop) (es : List ε) (i : Nat) : Prop :=
  i < es.length ∧ (∀ j, 0 < j → j < es.length → j ≠ i → ¬ lt (el es j) (el es ((j - 1) / 2))) ∧ (∀ j, 0 < j → j < es.length → (j - 1) / 2 = i → 0 < i → ¬ lt (el es j) (el es ((i - 1) / 2)))
def swap (es : List ε) (i p : Nat) : List ε := (es.set i (el es p)).set p (el es i)
theorem swap_length (es : List ε) (i p : Nat) : (swap es i p).length = es.length := by simp [swap]
theorem swap_perm {es : List ε} {i p : Nat} (hi : i < es.length) (hp : p < es.length) : (swap es i p).Perm es := by
  unfold swap
  rw [el_eq hi, el_eq hp]
  exact List.set_set_perm hi hp
theorem el_swap {es : List ε} {i p j : Nat} (hi : i < es.length) (hp : p < es.length) : el (swap es i p) j = if j = p then el es i else if j = i then el es p else el es j := by
  unfold swap
  rw [el_set (by rw [List.length_set]; exact hp), el_set hi]
theorem HP.root (h : SWO lt) {es : List ε} (hp : HP lt es) : ∀ i, i < es.length → ¬ lt (el es i) (el es 0) := by
  intro i
  induction i using Nat.strongRecOn with
  | _ i ih =>
    intro hi
    rcases Nat.eq_zero_or_pos i with rfl | h0
    · exact fun hl => h.asym _ _ hl hl
    · exact h.le_trans _ _ _ (ih ((i - 1) / 2) (by omega) (by omega)) (hp i h0 hi)
theorem up_start {es : List ε} (hp : HP lt es) (x : ε) : UpI lt (es ++ [x]) es.length := by
  have hl : (es ++ [x]).length = es.length + 1 := by simp
  refine ⟨by omega, fun j h0 hj hne => ?_, fun j h0 hj he => by omega⟩
  rw [el_append_left' (by omega), el_append_left' (by omega)]
  exact hp j h0 (by omega)
where
  el_append_left' {xs ys : List ε} {i : Nat} (h : i < xs.length) : el (xs ++ ys) i = el xs i := by simp [el, List.getD_eq_getElem?_getD, List.getElem?_append_left h]
theorem up_done {es : List ε} {i : Nat} (h : UpI lt es i) (hd : i = 0 ∨ ¬ lt (el es i) (el es ((i - 1) / 2))) : HP lt es := by
  intro j h0 hj
  by_cases he : j = i
  · subst he; rcases hd with hd | hd
    · omega
    · exact hd
  · exact h.2.1 j h0 hj he
theorem up_step (hs : SWO lt) {es : List ε} {i : Nat} (h : UpI lt es i) (h0 : 0 < i) (hl : lt (el es i) (el es ((i - 1) / 2))) : UpI lt (swap es i ((i - 1) / 2)) ((i - 1) / 2) := by
  obtain ⟨hi, h1, h2⟩ := h
  have hp : (i - 1) / 2 < es.length := by omega
  have hne : (i - 1) / 2 ≠ i := by omega
  refine ⟨by rw [swap_length]; exact hp, fun j hj0 hj hjp => ?_, fun j hj0 hj hjp hp0 => ?_⟩
  · rw [swap_length] at hj
    rw [el_swap hi hp, el_swap hi hp, if_neg hjp]
    by_cases hji : j = i
    · subst hji
      rw [if_pos rfl, if_pos rfl]
      exact hs.asym _ _ hl
    · rw [if_neg hji]
      by_cases hpj : (j - 1) / 2 = (i - 1) / 2
      · rw [if_pos hpj]
        have h3 := h1 j hj0 hj hji
        rw [hpj] at h3
        exact hs.le_trans _ _ _ (hs.asym _ _ hl) h3
      · rw [if_neg hpj]
        by_cases hpi : (j - 1) / 2 = i
        · rw [if_pos hpi]
          exact h2 j hj0 hj hpi h0
        · rw [if_neg hpi]
          exact h1 j hj0 hj hji
  · rw [swap_length] at hj
    have e1 : ((i - 1) / 2 - 1) / 2 ≠ (i - 1) / 2 := by omega
    have e2 : ((i - 1) / 2 - 1) / 2 ≠ i := by omega
    have hjp' : j ≠ (i - 1) / 2 := by omega
    rw [el_swap hi hp, el_swap hi hp, if_neg hjp', if_neg e1, if_neg e2]
    have h4 := h1 ((i - 1) / 2) hp0 hp hne
    by_cases hji : j = i
    · subst hji
      rw [if_pos rfl]
      exact h4
    · rw [if_neg hji]
      have h3 := h1 j hj0 hj hji
      rw [hjp] at h3
      exact hs.le_trans _ _ _ h4 h3
/-- on the way down -/
def DownI (lt : ε → ε → Prop) (es : List ε) (i : Nat) : Prop :=
  (∀ j, 0 < j → j < es.length → (j - 1) / 2 ≠ i → ¬ lt (el es j) (el es ((j - 1) / 2))) ∧ (∀ j, 0 < j → j < es.length → (j - 1) / 2 = i → 0 < i → ¬ lt (el es j) (el es ((i - 1) / 2)))
theorem down_start {es : List ε} {m : Nat} (hp : HP lt es) (hm : es.length = m + 1) : DownI lt ((es.set 0 (el es m)).take m) 0 := by
  refine ⟨fun j h0 hj hne => ?_, fun j _ _ _ h => by omega⟩
  rw [List.length_take, List.length_set] at hj
  rw [el_take (by omega), el_take (by omega), el_set (by omega), el_set (by omega), if_neg (by omega), if_neg (by omega)]
  exact hp j h0 (by omega)
theorem pop_perm {es : List ε} {m : Nat} (hm : es.length = m + 1) : es.Perm (el es 0 :: (es.set 0 (el es m)).take m) := by
  cases es with
  | nil => simp at hm
  | cons x xs =>
    have hx : xs.length = m := by simpa using hm
    rw [List.set_cons_zero]
    have e0 : el (x :: xs) 0 = x := rfl
    rw [e0]
    refine List.Perm.cons x ?_
    cases m with
    | zero => have : xs = [] := List.eq_nil_of_length_eq_zero hx; subst this; exact List.Perm.refl _
    | succ m =>
      have e1 : el (x :: xs) (m + 1) = el xs m := rfl
      rw [e1, List.take_succ_cons]
      have e2 : xs = xs.take m ++ [el xs m] := by
        have := List.take_succ_eq_append_getElem (l := xs) (i := m) (by omega)
        rw [List.take_of_length_le (by omega)] at this
        rw [el_eq (by omega)]; exact this
      have h3 : (xs.take m ++ [el xs m]).Perm (el xs m :: xs.take m) := List.perm_append_singleton _ _
      have e4 : xs.Perm (el xs m :: xs.take m) := by
        have h5 := h3
        rw [← e2] at h5
        exact h5
      exact e4
theorem down_done {es : List ε} {i : Nat} (h : DownI lt es i) (hd : ∀ j, 0 < j → j < es.length → (j - 1) / 2 = i → ¬ lt (el es j) (el es i)) : HP lt es := by
  intro j h0 hj
  by_cases he : (j - 1) / 2 = i
  · rw [he]; exact hd j h0 hj he
  · exact h.1 j h0 hj he
theorem down_step (hs : SWO lt) {es : List ε} {i k : Nat} (h : DownI lt es i) (hk0 : 0 < k) (hk : k < es.length) (hki : (k - 1) / 2 = i) (hl : lt (el es k) (el es i))
    (hmin : ∀ j, 0 < j → j < es.length → (j - 1) / 2 = i → ¬ lt (el es j) (el es k)) : DownI lt (swap es i k) k := by
  obtain ⟨h1, h2⟩ := h
  have hi : i < es.length := by omega
  refine ⟨fun j hj0 hj hjk => ?_, fun j hj0 hj hjk hk1 => ?_⟩
  · rw [swap_length] at hj
    rw [el_swap hi hk, el_swap hi hk]
    by_cases hjk' : j = k
    · subst hjk'
      have e3 : ¬ (j - 1) / 2 = j := by omega
      rw [if_pos rfl, if_neg e3, if_pos hki]
      exact hs.asym _ _ hl
    · rw [if_neg hjk']
      by_cases hji : j = i
      · subst hji
        have e1 : ¬ (j - 1) / 2 = k := by omega
        have e2 : ¬ (j - 1) / 2 = j := by omega
        rw [if_pos rfl, if_neg e1, if_neg e2]
        exact h2 k hk0 hk hki hj0
      · rw [if_neg hji, if_neg hjk]
        by_cases hpi : (j - 1) / 2 = i
        · rw [if_pos hpi]
          exact hmin j hj0 hj hpi
        · rw [if_neg hpi]
          exact h1 j hj0 hj hpi
  · rw [swap_length] at hj
    have e1 : ¬ j = k := by omega
    have e2 : ¬ j = i := by omega
    have e3 : ¬ i = k := by omega
    rw [el_swap hi hk, el_swap hi hk, if_neg e1, if_neg e2, hki, if_neg e3, if_pos rfl]
    have h3 := h1 j hj0 hj (by omega)
    rw [hjk] at h3
    exact h3
end Go.HeapPure
namespace Go.HeapPure
open Go.Eng Go.OrdPure
/-- what comes ahead in a heap -/
def ah {α : Type} (c : α → α → Int) (a b : α × Nat) : Prop := c a.1 b.1 < 0 ∨ (c a.1 b.1 = 0 ∧ a.2 < b.2)
instance {α : Type} (c : α → α → Int) (a b : α × Nat) : Decidable (ah c a b) := inferInstanceAs (Decidable (_ ∨ _))
theorem ah_swo {α : Type} {c : α → α → Int} (h : Lawful c) : SWO (ah c) := by
  constructor
  · intro a b h1 h2
    have e1 := h.lt_flip (a := a.1) (b := b.1)
    have e2 := h.lt_flip (a := b.1) (b := a.1)
    unfold ah at h1 h2
    omega
  · intro a b d h1 h2 h3
    unfold ah at *
    have e1 := h.le_flip (a := a.1) (b := b.1)
    have e2 := h.le_flip (a := b.1) (b := d.1)
    have e3 := h.le_flip (a := a.1) (b := d.1)
    have f1 := h.le_flip (a := b.1) (b := a.1)
    have f2 := h.le_flip (a := d.1) (b := b.1)
    have f3 := h.le_flip (a := d.1) (b := a.1)
    have t1 := h.trans a.1 b.1 d.1
    have t2 := h.trans d.1 b.1 a.1
    have t3 := h.trans b.1 a.1 d.1
    have t4 := h.trans a.1 d.1 b.1
    have t5 := h.trans d.1 a.1 b.1
    have t6 := h.trans b.1 d.1 a.1
    omega
end Go.HeapPure
namespace Go.HeapPure
open Go.Eng Go.OrdPure
variable {ε : Type} [Inhabited ε] {lt : ε → ε → Prop}
theorem down_min_l (hs : SWO lt) {es : List ε} {i k : Nat} (hk : k = 2 * i + 1) (h : ¬ lt (el es (k + 1)) (el es k) ∨ ¬ k + 1 < es.length) : ∀ j, 0 < j → j < es.length → (j - 1) / 2 = i → ¬ lt (el es j) (el es k) := by
  intro j h0 hj he
  rcases (by omega : j = k ∨ j = k + 1) with rfl | rfl
  · exact fun h => hs.asym _ _ h h
  · rcases h with h | h
    · exact h
    · exact absurd hj h
theorem down_min_r (hs : SWO lt) {es : List ε} {i k : Nat} (hk : k = 2 * i + 1) (h : lt (el es (k + 1)) (el es k)) : ∀ j, 0 < j → j < es.length → (j - 1) / 2 = i → ¬ lt (el es j) (el es (k + 1)) := by
  intro j h0 hj he
  rcases (by omega : j = k ∨ j = k + 1) with rfl | rfl
  · exact hs.asym _ _ h
  · exact fun h => hs.asym _ _ h h
theorem down_stop (hs : SWO lt) {es : List ε} {i k : Nat} (hD : DownI lt es i) (hmin : ∀ j, 0 < j → j < es.length → (j - 1) / 2 = i → ¬ lt (el es j) (el es k)) (hn : ¬ lt (el es k) (el es i)) : HP lt es :=
  down_done hD fun j h0 hj he => hs.le_trans _ _ _ hn (hmin j h0 hj he)
omit [Inhabited ε] in
theorem take_set_le {es : List ε} {i j : Nat} (x : ε) (h : j ≤ i) : (es.set i x).take j = es.take j := by
  apply List.ext_getElem?
  intro n
  rw [List.getElem?_take, List.getElem?_take]
  split
  · rw [List.getElem?_set, if_neg (by omega)]
  · rfl
end Go.HeapPure
