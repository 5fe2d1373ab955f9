/- Numbers in texts: what they say. Plain. -/
import Derived.Test.YtegpcbckiehleaaDoorSOps
import Derived.Test.YtegpcbckiehleaaDoorOrdPure
namespace Go.Eng
open Go.RowKit Go.Flt
/-- a text's bytes as numbers -/
def bl (s : ByteArray) : List Nat := s.data.toList.map (·.toNat)
theorem bl_len (s : ByteArray) : (bl s).length = s.size := by unfold bl; rw [List.length_map, Array.length_toList]; rfl
theorem bl_el {s : ByteArray} {i : Nat} (h : i < s.size) : el (bl s) i = ch s i := by
  have h' : i < s.data.toList.length := by rw [Array.length_toList]; exact h
  rw [el_eq (by rw [bl_len]; exact h)]
  unfold bl ch
  rw [List.getElem_map]
  congr 1
  cases s with
  | mk d =>
    show d.toList[i] = d[i]!
    have hd : i < d.size := h
    rw [getElem!_pos d i hd]; simp
theorem bl_append (a b : ByteArray) : bl (a ++ b) = bl a ++ bl b := by unfold bl; simp [ByteArray.data_append]
theorem bl_extract (s : ByteArray) (l h : Nat) : bl (s.extract l h) = ((bl s).drop l).take (h - l) := by
  unfold bl
  rw [ByteArray.data_extract, Array.toList_extract, List.extract, ← List.map_drop, ← List.map_take]
theorem size_extract (s : ByteArray) (l h : Nat) : (s.extract l h).size = min h s.size - l := by rw [← bl_len, bl_extract, List.length_take, List.length_drop, bl_len]; omega
def dig (b : Nat) : Prop := 48 ≤ b ∧ b ≤ 57
instance (b : Nat) : Decidable (dig b) := inferInstanceAs (Decidable (_ ∧ _))
def digs (l : List Nat) : Bool := l.all (fun b => decide (dig b)) && decide (0 < l.length)
theorem digs_no {l : List Nat} {i : Nat} (hi : i < l.length) (h : ¬ dig (el l i)) : digs l = false := by
  unfold digs
  have : l.all (fun b => decide (dig b)) = false := List.all_eq_false.2 ⟨el l i, by rw [el_eq hi]; exact List.getElem_mem _, by simpa using h⟩
  rw [this]; rfl
theorem digs_yes {l : List Nat} (h : ∀ i, i < l.length → dig (el l i)) : digs l = decide (0 < l.length) := by
  unfold digs
  have : l.all (fun b => decide (dig b)) = true := List.all_eq_true.2 fun x hx => by
    obtain ⟨i, hi, rfl⟩ := List.getElem_of_mem hx
    have := h i hi
    rw [el_eq hi] at this
    simpa using this
  rw [this]; simp
theorem digs_iff {l : List Nat} : digs l = true ↔ 0 < l.length ∧ ∀ i, i < l.length → dig (el l i) := by
  constructor
  · intro h
    have h1 : ∀ i, i < l.length → dig (el l i) := fun i hi => by
      by_cases hd : dig (el l i)
      · exact hd
      · rw [digs_no hi hd] at h; cases h
    rw [digs_yes h1] at h
    exact ⟨of_decide_eq_true h, h1⟩
  · rintro ⟨h1, h2⟩; rw [digs_yes h2]; exact decide_eq_true h1
def whole (l : List Nat) : Nat := l.foldl (fun n b => 10 * n + (b - 48)) 0
theorem whole_snoc (l : List Nat) (b : Nat) : whole (l ++ [b]) = 10 * whole l + (b - 48) := by unfold whole; rw [List.foldl_append]; rfl
theorem whole_lt : ∀ (k : Nat) (l : List Nat), l.length = k → (∀ i, i < l.length → dig (el l i)) → whole l < 10 ^ k := by
  intro k
  induction k with
  | zero => intro l hl _; rw [List.length_eq_zero_iff.1 hl]; decide
  | succ k ih =>
    intro l hl h
    obtain ⟨l', b, rfl⟩ : ∃ l' b, l = l' ++ [b] := ⟨l.dropLast, l.getLast (by intro e; rw [e] at hl; simp at hl), (List.dropLast_concat_getLast _).symm⟩
    rw [List.length_append, List.length_singleton] at hl
    have h1 := ih l' (by omega) fun i hi => by have := h i (by rw [List.length_append]; omega); rwa [el_append_left hi] at this
    have h2 := h l'.length (by rw [List.length_append, List.length_singleton]; omega)
    have h3 : el (l' ++ [b]) l'.length = b := by have := el_append_right (xs := l') (ys := [b]) (i := 0); rw [Nat.add_zero] at this; rw [this]; rfl
    rw [h3] at h2
    unfold dig at h2
    rw [whole_snoc, Nat.pow_succ]
    omega
/-- the number that bytes say, as its bits -/
def dot (l : List Nat) : Nat := l.findIdx (· == 46)
def front (l : List Nat) : List Nat := l.take (dot l)
def back (l : List Nat) : List Nat := l.drop (dot l + 1)
def numBits (n k : Nat) : Nat := if 0 < k then ((Flt.D.div (fromInt n) (fromInt (10 ^ k : Nat))).getD 0) else fromInt n
def numB (l : List Nat) : Option Nat :=
  if (dot l < l.length ∧ digs (back l) = false) ∨ digs (front l) = false ∨ 15 < (front l).length + (back l).length then none
  else some (numBits (whole (front l ++ back l)) (back l).length)
def numL (l : List Nat) : Option Nat := if l.head? = some 45 then (numB l.tail).map negF else numB l
end Go.Eng
