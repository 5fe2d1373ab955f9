/- Plain facts on sorting, merging, sets as sorted lists. No program. -/
import Derived.Test.YtljfgmedbjlkaaaGreatEl
import Derived.Test.YtljfgmedbjlkaaaGreatSOps
namespace Go.OrdPure
open Go.Eng
variable {α : Type}
/-- an order, as the chapter has it -/
structure Lawful (c : α → α → Int) : Prop where
  asym : ∀ a b, c a b < 0 → 0 < c b a
  pos : ∀ a b, 0 < c a b → c b a < 0
  trans : ∀ a b d, c a b ≤ 0 → c b d ≤ 0 → c a d ≤ 0
variable {c : α → α → Int}
theorem Lawful.refl (h : Lawful c) (a : α) : c a a = 0 := by
  have h1 := h.asym a a
  have h2 := h.pos a a
  omega
/-- put behind those that it is not ahead of -/
def ins (c : α → α → Int) (x : α) : List α → List α
  | [] => [x]
  | y :: ys => if c x y < 0 then x :: y :: ys else y :: ins c x ys
/-- sorted, alike ones as they stood -/
def srt (c : α → α → Int) (xs : List α) : List α := xs.foldl (fun acc x => ins c x acc) []
@[simp] theorem srt_nil : srt c ([] : List α) = [] := rfl
/-! ### a piece of a list -/
def seg (xs : List α) (i j : Nat) : List α := (xs.take j).drop i
theorem seg_all (xs : List α) : seg xs 0 xs.length = xs := by simp [seg]
theorem seg_set (xs : List α) {i j k : Nat} (v : α) (h : j ≤ k) : seg (xs.set k v) i j = seg xs i j := by
  unfold seg; rw [List.take_set_of_le h]
/-- pieces of width w, up to a place, are sorted -/
def SegOK (c : α → α → Int) (w : Nat) (xs F : List α) (upto : Nat) : Prop := ∀ m, m * w < upto → seg F (m * w) (min (m * w + w) xs.length) = srt c (seg xs (m * w) (min (m * w + w) xs.length))
theorem SegOK.one (xs : List α) (n : Nat) : SegOK c 1 xs xs n := by
  intro m _
  rcases Nat.lt_or_ge m xs.length with h | h
  · have e : min (m * 1 + 1) xs.length = m + 1 := by omega
    rw [e, Nat.mul_one]
    have : seg xs m (m + 1) = [xs[m]] := by
      unfold seg
      rw [List.take_succ_eq_append_getElem h, List.drop_append_of_le_length (by rw [List.length_take]; omega), List.drop_eq_nil_of_le (by rw [List.length_take]; omega)]
      rfl
    rw [this]; rfl
  · have e : min (m * 1 + 1) xs.length = xs.length := by omega
    have : seg xs (m * 1) (min (m * 1 + 1) xs.length) = [] := by rw [e]; unfold seg; exact List.drop_eq_nil_of_le (by rw [List.length_take]; omega)
    rw [this]; rfl
theorem SegOK.zero (w : Nat) (xs F : List α) : SegOK c w xs F 0 := fun m h => by omega
theorem SegOK.set {w : Nat} {xs F : List α} {p k : Nat} (h : SegOK c w xs F p) (v : α) (hk : p ≤ k) (hp : ∃ m, p = m * w) : SegOK c w xs (F.set k v) p := by
  intro m hm
  obtain ⟨q, rfl⟩ := hp
  have h1 : m < q := Nat.lt_of_mul_lt_mul_right hm
  have h2 : m * w + w ≤ q * w := by rw [← Nat.succ_mul]; exact Nat.mul_le_mul_right _ h1
  rw [seg_set _ _ (by omega)]
  exact h m hm
section
variable [Inhabited α]
end
theorem SegOK.mono {w : Nat} {xs F : List α} {p q : Nat} (h : SegOK c w xs F p) (hq : q ≤ p) : SegOK c w xs F q := fun m hm => h m (by omega)
theorem SegOK.done {w : Nat} {xs F : List α} (h : SegOK c w xs F xs.length) (hl : F.length = xs.length) (hw : xs.length ≤ w) : F = srt c xs := by
  rcases Nat.eq_zero_or_pos xs.length with h0 | h0
  · have e1 : F = [] := List.eq_nil_of_length_eq_zero (by omega)
    have e2 : xs = [] := List.eq_nil_of_length_eq_zero (by omega)
    subst e1; subst e2; rfl
  · have := h 0 (by omega)
    rw [Nat.zero_mul, Nat.zero_add, Nat.min_eq_right hw, seg_all] at this
    rw [← this, ← hl, seg_all]
end Go.OrdPure
namespace Go.Eng
open Go.RowKit Go.Flt
/-- a text's bytes as numbers -/
def bl (s : ByteArray) : List Nat := s.data.toList.map (·.toNat)
theorem bl_len (s : ByteArray) : (bl s).length = s.size := by unfold bl; rw [List.length_map, Array.length_toList]; rfl
theorem bl_el {s : ByteArray} {i : Nat} (h : i < s.size) : el (bl s) i = ch s i := by
  have h' : i < s.data.toList.length := by rw [Array.length_toList]; exact h
  rw [el_eq (by rw [bl_len]; exact h)]
  unfold bl ch
  rw [List.getElem_map]
  congr 1
  cases s with
  | mk d =>
    show d.toList[i] = d[i]!
    have hd : i < d.size := h
    rw [getElem!_pos d i hd]; simp
theorem bl_append (a b : ByteArray) : bl (a ++ b) = bl a ++ bl b := by unfold bl; simp [ByteArray.data_append]
theorem bl_extract (s : ByteArray) (l h : Nat) : bl (s.extract l h) = ((bl s).drop l).take (h - l) := by
  unfold bl
  rw [ByteArray.data_extract, Array.toList_extract, List.extract, ← List.map_drop, ← List.map_take]
theorem size_extract (s : ByteArray) (l h : Nat) : (s.extract l h).size = min h s.size - l := by rw [← bl_len, bl_extract, List.length_take, List.length_drop, bl_len]; omega
def dig (b : Nat) : Prop := 48 ≤ b ∧ b ≤ 57
instance (b : Nat) : Decidable (dig b) := inferInstanceAs (Decidable (_ ∧ _))
/-- the number that bytes say, as its bits -/
def dot (l : List Nat) : Nat := l.findIdx (· == 46)
def back (l : List Nat) : List Nat := l.drop (dot l + 1)
end Go.Eng
