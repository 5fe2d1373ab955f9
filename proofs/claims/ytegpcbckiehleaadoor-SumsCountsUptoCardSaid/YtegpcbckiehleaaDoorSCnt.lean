/- Groups by one column more are cut out of those by fewer. Seat-free. -/
import Derived.Test.YtegpcbckiehleaaDoorSAll
namespace Go.Eng
open Go.RowKit Go.OrdPure Go.Flt
theorem setL_same {P Q : List Tup} (h : ∀ t, t ∈ P ↔ t ∈ Q) : setL P = setL Q := IsSet.uniq (P := P) (setL_is P) ⟨(setL_is Q).1, fun t => ((setL_is Q).2 t).trans (h t).symm⟩
theorem cutL_take (t : Tup) (ls : List Int) (k : Nat) : cutL t (ls.take k) = (cutL t ls).take k := by unfold cutL; exact List.map_take
theorem okB_take {ar : Int} {ls : List Int} {P : List Tup} (h : okB ar ls P) (k : Nat) : okB ar (ls.take k) P := by
  refine ⟨h.1, fun i hi => ?_⟩
  rw [List.length_take] at hi
  have e : ∀ j, j ≤ i → el (ls.take k) j = el ls j := fun j hj => by
    simp only [el, List.getD_eq_getElem?_getD, List.getElem?_take]
    rw [if_pos (by omega)]
  rw [e i (Nat.le_refl _)]
  refine ⟨(h.2 i (by omega)).1, fun j hj => ?_⟩
  rw [e j (by omega)]
  exact (h.2 i (by omega)).2 j hj
theorem keys_len {ls : List Int} {P : List Tup} {k : Tup} (h : k ∈ keysL ls P) : k.length = ls.length := by
  obtain ⟨t, _, e⟩ := List.mem_map.1 (((setL_is _).2 _).1 h)
  rw [← e, cutL_len]
theorem keys_mem {ls : List Int} {P : List Tup} {k : Tup} : k ∈ keysL ls P ↔ ∃ t ∈ setL P, cutL t ls = k := by unfold keysL; rw [(setL_is _).2 k, List.mem_map]
theorem keys_strict (ls : List Int) (P : List Tup) : (keysL ls P).Pairwise fun a b => tups a b < 0 := (setL_is _).1
theorem strict_at {K : List Tup} (h : K.Pairwise fun a b => tups a b < 0) {i j : Nat} (hij : i < j) (hj : j < K.length) : tups (el K i) (el K j) < 0 := by
  have := List.pairwise_iff_getElem.1 h i j (by omega) hj hij
  rwa [el_eq (by omega), el_eq hj]
theorem strict_ne {K : List Tup} (h : K.Pairwise fun a b => tups a b < 0) {i j : Nat} (hij : i < j) (hj : j < K.length) : el K i ≠ el K j := fun e => by
  have := strict_at h hij hj
  rw [e, tups_self] at this; omega
/-- how many tuples have a key from a to b -/
def cntL (ls : List Int) (P : List Tup) (a b : Nat) : Nat := ((setL P).filter fun t => decide (∃ j, j < b ∧ a ≤ j ∧ cutL t ls = el (keysL ls P) j)).length
section
variable {ls : List Int} {P : List Tup} {a b : Nat}
theorem cnt_self (ls : List Int) (P : List Tup) (a : Nat) : cntL ls P a a = 0 := by
  unfold cntL
  rw [List.length_eq_zero_iff, List.filter_eq_nil_iff]
  intro t _ h
  obtain ⟨j, h1, h2, _⟩ := of_decide_eq_true h
  omega
theorem cnt_le (ls : List Int) (P : List Tup) (a b : Nat) : cntL ls P a b ≤ (setL P).length := List.length_filter_le _ _
theorem filter_or {α : Type} {p q r : α → Prop} [DecidablePred p] [DecidablePred q] [DecidablePred r] (l : List α) (h : ∀ x ∈ l, r x ↔ p x ∨ q x) (hd : ∀ x ∈ l, p x → ¬ q x) : (l.filter fun x => decide (r x)).length = (l.filter fun x => decide (p x)).length + (l.filter fun x => decide (q x)).length := by
  induction l with
  | nil => rfl
  | cons x l ih =>
    have ih' := ih (fun y hy => h y (List.mem_cons_of_mem _ hy)) (fun y hy => hd y (List.mem_cons_of_mem _ hy))
    have hx := h x (by simp)
    have dx := hd x (by simp)
    simp only [List.filter_cons]
    by_cases h1 : p x
    · have h2 := dx h1
      rw [if_pos (by simpa using hx.2 (.inl h1)), if_pos (by simpa using h1), if_neg (by simpa using h2)]
      simp only [List.length_cons]; omega
    · by_cases h2 : q x
      · rw [if_pos (by simpa using hx.2 (.inr h2)), if_neg (by simpa using h1), if_pos (by simpa using h2)]
        simp only [List.length_cons]; omega
      · rw [if_neg (by simpa using fun e => (hx.1 e).elim h1 h2), if_neg (by simpa using h1), if_neg (by simpa using h2)]
        exact ih'
theorem cnt_succ (hab : a ≤ b) (hb : b < (keysL ls P).length) : cntL ls P a (b + 1) = cntL ls P a b + (memL ls P (el (keysL ls P) b)).length := by
  unfold cntL memL
  refine filter_or (p := fun t => ∃ j, j < b ∧ a ≤ j ∧ cutL t ls = el (keysL ls P) j) (q := fun t => cutL t ls = el (keysL ls P) b) (r := fun t => ∃ j, j < b + 1 ∧ a ≤ j ∧ cutL t ls = el (keysL ls P) j) _ (fun t _ => ?_) fun t _ => ?_
  · constructor
    · rintro ⟨j, h1, h2, h3⟩
      by_cases e : j = b
      · subst e; exact .inr h3
      · exact .inl ⟨j, by omega, h2, h3⟩
    · rintro (⟨j, h1, h2, h3⟩ | h)
      · exact ⟨j, by omega, h2, h3⟩
      · exact ⟨b, by omega, hab, h⟩
  · rintro ⟨j, h1, h2, h3⟩ h4
    exact strict_ne (keys_strict ls P) h1 hb (h3.symm.trans h4)
theorem cnt_add (hab : a ≤ b) (hb : b ≤ (keysL ls P).length) : cntL ls P 0 a + cntL ls P a b = cntL ls P 0 b := by
  induction b with
  | zero => have : a = 0 := by omega
            subst this; rw [cnt_self]
  | succ b ih =>
    by_cases e : a = b + 1
    · subst e; rw [cnt_self]; omega
    · rw [cnt_succ (by omega) (by omega), cnt_succ (by omega) (by omega), ← ih (by omega) (by omega)]; omega
theorem cnt_all (ls : List Int) (P : List Tup) : cntL ls P 0 (keysL ls P).length = (setL P).length := by
  unfold cntL
  congr 1
  rw [List.filter_eq_self]
  intro t ht
  obtain ⟨j, hj, e⟩ := List.getElem_of_mem (keys_mem.2 ⟨t, ht, rfl⟩ : cutL t ls ∈ keysL ls P)
  exact decide_eq_true ⟨j, hj, Nat.zero_le _, by rw [el_eq hj]; exact e.symm⟩
end
/-! beginnings of keys -/
theorem tups_take_le : ∀ (m : Nat) (a b : Tup), tups a b ≤ 0 → a.length = b.length → tups (a.take m) (b.take m) ≤ 0
  | 0, _, _, _, _ => by simp [tups]
  | _ + 1, [], [], _, _ => by simp [tups]
  | _ + 1, [], _ :: _, _, h => by simp at h
  | _ + 1, _ :: _, [], _, h => by simp at h
  | m + 1, a :: l, b :: r, h, hl => by
    simp only [List.take_succ_cons, tups] at h ⊢
    split
    · rename_i e
      rw [if_pos e] at h
      exact tups_take_le m l r h (by simpa using hl)
    · rename_i e
      rw [if_neg e] at h
      exact h
section
variable {ls : List Int} {P : List Tup} {m : Nat}
/-- each key's beginning is a key by fewer columns -/
theorem pre_mem {j : Nat} (hj : j < (keysL ls P).length) : ∃ i, i < (keysL (ls.take m) P).length ∧ (el (keysL ls P) j).take m = el (keysL (ls.take m) P) i := by
  have h1 : el (keysL ls P) j ∈ keysL ls P := el_mem' hj
  obtain ⟨t, ht, e⟩ := keys_mem.1 h1
  have h2 : cutL t (ls.take m) ∈ keysL (ls.take m) P := keys_mem.2 ⟨t, ht, rfl⟩
  obtain ⟨i, hi, e2⟩ := List.getElem_of_mem h2
  exact ⟨i, hi, by rw [el_eq hi, e2, cutL_take, e]⟩
/-- what has been gone over: the keys ahead of at begin by fewer keys ahead of i, the others by others -/
structure At (ls : List Int) (P : List Tup) (m i at_ : Nat) : Prop where
  le : at_ ≤ (keysL ls P).length
  lt : ∀ j, j < at_ → ∃ k, k < i ∧ k < (keysL (ls.take m) P).length ∧ (el (keysL ls P) j).take m = el (keysL (ls.take m) P) k
  ge : ∀ j, at_ ≤ j → j < (keysL ls P).length → ∃ k, i ≤ k ∧ k < (keysL (ls.take m) P).length ∧ (el (keysL ls P) j).take m = el (keysL (ls.take m) P) k
theorem At.zero (ls : List Int) (P : List Tup) (m : Nat) : At ls P m 0 0 := ⟨Nat.zero_le _, fun j h => by omega, fun j _ hj => by obtain ⟨i, hi, e⟩ := pre_mem (m := m) hj; exact ⟨i, Nat.zero_le _, hi, e⟩⟩
theorem At.next {i a b : Nat} (h : At ls P m i a) (hi : i < (keysL (ls.take m) P).length) (hab : a ≤ b) (hb : b ≤ (keysL ls P).length) (hrun : ∀ j, a ≤ j → j < b → (el (keysL ls P) j).take m = el (keysL (ls.take m) P) i) (hend : b < (keysL ls P).length → (el (keysL ls P) b).take m ≠ el (keysL (ls.take m) P) i) :
    At ls P m (i + 1) b ∧ cntL ls P a b = (memL (ls.take m) P (el (keysL (ls.take m) P) i)).length := by
  have hs := keys_strict ls P
  have hs' := keys_strict (ls.take m) P
  have hge : ∀ j, b ≤ j → j < (keysL ls P).length → ∃ k, i + 1 ≤ k ∧ k < (keysL (ls.take m) P).length ∧ (el (keysL ls P) j).take m = el (keysL (ls.take m) P) k := fun j h1 h2 => by
    obtain ⟨k, k1, k2, k3⟩ := h.ge j (by omega) h2
    obtain ⟨q, q1, q2, q3⟩ := h.ge b hab (by omega)
    have hq : i + 1 ≤ q := by
      by_cases e : q = i
      · subst e; exact absurd q3 (hend (by omega))
      · omega
    refine ⟨k, ?_, k2, k3⟩
    by_cases hkq : q ≤ k
    · omega
    · exfalso
      have h3 : tups (el (keysL ls P) b) (el (keysL ls P) j) ≤ 0 := by
        by_cases e : b = j
        · subst e; rw [tups_self]; omega
        · exact Int.le_of_lt (strict_at hs (by omega) h2)
      have h4 := tups_take_le m _ _ h3 (by rw [keys_len (el_mem' (by omega)), keys_len (el_mem' h2)])
      rw [q3, k3] at h4
      have h5 := strict_at hs' (show k < q by omega) q2
      have := tups_law.lt_of_lt_le h5 h4
      rw [tups_self] at this; omega
  refine ⟨⟨hb, fun j hj => ?_, hge⟩, ?_⟩
  · by_cases e : j < a
    · obtain ⟨k, k1, k2, k3⟩ := h.lt j e; exact ⟨k, by omega, k2, k3⟩
    · exact ⟨i, by omega, hi, hrun j (by omega) hj⟩
  · unfold cntL memL
    congr 1
    refine List.filter_congr fun t ht => decide_eq_decide.2 ?_
    constructor
    · rintro ⟨j, h1, h2, h3⟩
      rw [cutL_take, h3]; exact hrun j h2 h1
    · intro hc
      obtain ⟨j, hj, e⟩ := List.getElem_of_mem (keys_mem.2 ⟨t, ht, rfl⟩ : cutL t ls ∈ keysL ls P)
      rw [← el_eq hj] at e
      have hp : (el (keysL ls P) j).take m = el (keysL (ls.take m) P) i := by rw [e, ← cutL_take]; exact hc
      refine ⟨j, ?_, ?_, e.symm⟩
      · by_cases hjb : j < b
        · exact hjb
        · exfalso
          obtain ⟨k, k1, k2, k3⟩ := hge j (by omega) hj
          exact strict_ne hs' (show i < k by omega) k2 (hp.symm.trans k3)
      · by_cases hja : a ≤ j
        · exact hja
        · exfalso
          obtain ⟨k, k1, k2, k3⟩ := h.lt j (by omega)
          exact strict_ne hs' k1 hi (k3.symm.trans hp)
theorem At.done {a : Nat} (h : At ls P m (keysL (ls.take m) P).length a) : a = (keysL ls P).length := by
  by_cases e : a < (keysL ls P).length
  · obtain ⟨k, k1, k2, _⟩ := h.ge a (Nat.le_refl _) e; omega
  · have := h.le; omega
end
/-! no columns -/
theorem keys_none (P : List Tup) : (keysL [] P).length = min 1 P.length ∧ (P ≠ [] → (memL [] P (el (keysL [] P) 0)).length = (setL P).length) := by
  have hset : setL P = [] ↔ P = [] := by
    constructor
    · intro h
      cases P with
      | nil => rfl
      | cons t P => have := ((setL_is (t :: P)).2 t).2 (by simp); rw [h] at this; simp at this
    · rintro rfl; rfl
  by_cases h : P = []
  · subst h; exact ⟨rfl, fun h => absurd rfl h⟩
  · have hm : ∀ k, k ∈ keysL [] P ↔ k = [] := fun k => by
      rw [keys_mem]
      constructor
      · rintro ⟨t, _, rfl⟩; rfl
      · rintro rfl
        obtain ⟨t, ht⟩ := List.exists_mem_of_ne_nil _ (fun e => h (hset.1 e))
        exact ⟨t, ht, rfl⟩
    have he : keysL [] P = [[]] := strict_uniq tups_law (fun _ _ => tups_zero) (keys_strict _ _) (List.pairwise_singleton _ _) fun t => by rw [hm, List.mem_singleton]
    have hp : 0 < P.length := List.length_pos_iff.2 h
    refine ⟨by rw [he]; simp; omega, fun _ => ?_⟩
    unfold memL
    congr 1
    rw [List.filter_eq_self]
    intro t _
    rw [he]; rfl
end Go.Eng
