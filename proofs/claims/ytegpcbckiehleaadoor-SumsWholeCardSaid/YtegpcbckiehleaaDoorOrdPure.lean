/- Plain facts on sorting, merging, sets as sorted lists. No program. -/
import Derived.Test.YtegpcbckiehleaaDoorEl
namespace Go.OrdPure
open Go.Eng
variable {α : Type}
theorem rev_ind {p : List α → Prop} (h0 : p []) (h1 : ∀ xs x, p xs → p (xs ++ [x])) (xs : List α) : p xs := by
  rw [← List.reverse_reverse xs]
  induction xs.reverse with
  | nil => exact h0
  | cons x l ih => rw [List.reverse_cons]; exact h1 _ _ ih

/-- an order, as the chapter has it -/
structure Lawful (c : α → α → Int) : Prop where
  asym : ∀ a b, c a b < 0 → 0 < c b a
  pos : ∀ a b, 0 < c a b → c b a < 0
  trans : ∀ a b d, c a b ≤ 0 → c b d ≤ 0 → c a d ≤ 0
variable {c : α → α → Int}
theorem Lawful.refl (h : Lawful c) (a : α) : c a a = 0 := by
  have h1 := h.asym a a
  have h2 := h.pos a a
  omega
theorem Lawful.le_flip (h : Lawful c) {a b : α} : c a b ≤ 0 ↔ 0 ≤ c b a := by
  have h1 := h.asym b a
  have h2 := h.pos a b
  omega
theorem Lawful.lt_flip (h : Lawful c) {a b : α} : c a b < 0 ↔ 0 < c b a := ⟨h.asym a b, fun h1 => h.pos b a h1⟩
theorem Lawful.lt_of_lt_le (h : Lawful c) {a b d : α} (h1 : c a b < 0) (h2 : c b d ≤ 0) : c a d < 0 := by
  by_cases h3 : c a d < 0
  · exact h3
  · have h4 : c d a ≤ 0 := h.le_flip.2 (by omega)
    have := h.trans b d a h2 h4
    have := h.asym a b h1
    omega
theorem Lawful.lt_of_le_lt (h : Lawful c) {a b d : α} (h1 : c a b ≤ 0) (h2 : c b d < 0) : c a d < 0 := by
  by_cases h3 : c a d < 0
  · exact h3
  · have h4 : c d a ≤ 0 := h.le_flip.2 (by omega)
    have := h.trans d a b h4 h1
    have := h.asym b d h2
    omega
theorem Lawful.zero_trans (h : Lawful c) {a b d : α} (h1 : c a b = 0) : c a d = 0 ↔ c b d = 0 := by
  have e1 := h.le_flip (a := a) (b := b)
  have e2 := h.le_flip (a := b) (b := a)
  have e3 := h.le_flip (a := a) (b := d)
  have e4 := h.le_flip (a := b) (b := d)
  have e5 := h.le_flip (a := d) (b := a)
  have e6 := h.le_flip (a := d) (b := b)
  have t1 := h.trans a b d
  have t2 := h.trans b a d
  have t3 := h.trans d b a
  have t4 := h.trans d a b
  constructor <;> intro h2 <;> omega

/-- put behind those that it is not ahead of -/
def ins (c : α → α → Int) (x : α) : List α → List α
  | [] => [x]
  | y :: ys => if c x y < 0 then x :: y :: ys else y :: ins c x ys
/-- sorted, alike ones as they stood -/
def srt (c : α → α → Int) (xs : List α) : List α := xs.foldl (fun acc x => ins c x acc) []
theorem srt_snoc (xs : List α) (x : α) : srt c (xs ++ [x]) = ins c x (srt c xs) := by simp [srt]
@[simp] theorem srt_nil : srt c ([] : List α) = [] := rfl
theorem ins_length (x : α) (ys : List α) : (ins c x ys).length = ys.length + 1 := by
  induction ys with
  | nil => rfl
  | cons y ys ih => simp only [ins]; split <;> simp [ih]
theorem srt_length (xs : List α) : (srt c xs).length = xs.length := by
  induction xs using rev_ind with
  | h0 => rfl
  | h1 xs x ih => rw [srt_snoc, ins_length, ih]; simp
theorem ins_mem (x z : α) (ys : List α) : z ∈ ins c x ys ↔ z = x ∨ z ∈ ys := by
  induction ys with
  | nil => simp [ins]
  | cons y ys ih =>
    simp only [ins]; split
    · simp
    · simp only [List.mem_cons, ih]
      constructor
      · rintro (h | h | h) <;> simp [h]
      · rintro (h | h | h) <;> simp [h]
theorem srt_mem (z : α) (xs : List α) : z ∈ srt c xs ↔ z ∈ xs := by
  induction xs using rev_ind with
  | h0 => simp
  | h1 xs x ih => rw [srt_snoc, ins_mem, ih]; simp [or_comm]
/-- it rises -/
def Rise (c : α → α → Int) (xs : List α) : Prop := xs.Pairwise fun a b => c a b ≤ 0
theorem ins_rise (hc : Lawful c) (x : α) {ys : List α} (h : Rise c ys) : Rise c (ins c x ys) := by
  induction ys with
  | nil => simp [ins, Rise]
  | cons y ys ih =>
    have h' := List.pairwise_cons.1 h
    simp only [ins]; split
    · rename_i hlt
      refine List.pairwise_cons.2 ⟨fun z hz => ?_, h⟩
      rcases List.mem_cons.1 hz with rfl | hz
      · omega
      · exact Int.le_of_lt (hc.lt_of_lt_le hlt (h'.1 z hz))
    · rename_i hge
      refine List.pairwise_cons.2 ⟨fun z hz => ?_, ih h'.2⟩
      rcases (ins_mem x z ys).1 hz with rfl | hz
      · exact hc.le_flip.2 (by omega)
      · exact h'.1 z hz
theorem srt_rise (hc : Lawful c) (xs : List α) : Rise c (srt c xs) := by
  induction xs using rev_ind with
  | h0 => simp [Rise]
  | h1 xs x ih => rw [srt_snoc]; exact ins_rise hc x ih
theorem ins_last {x : α} {ys : List α} (h : ∀ y ∈ ys, ¬ c x y < 0) : ins c x ys = ys ++ [x] := by
  induction ys with
  | nil => rfl
  | cons y ys ih => simp only [ins]; rw [if_neg (h y (by simp)), ih (fun z hz => h z (by simp [hz]))]; rfl
theorem srt_of_rise (hc : Lawful c) {xs : List α} (h : Rise c xs) : srt c xs = xs := by
  induction xs using rev_ind with
  | h0 => rfl
  | h1 xs x ih =>
    have h' := List.pairwise_append.1 h
    rw [srt_snoc, ih h'.1, ins_last]
    intro y hy
    have := h'.2.2 y hy x (by simp)
    have := (hc.le_flip (a := y) (b := x)).1 this
    omega
/-- two lists that rise, put together -/
def mrg (c : α → α → Int) : List α → List α → List α
  | [], ys => ys
  | x :: xs, [] => x :: xs
  | x :: xs, y :: ys => if c y x < 0 then y :: mrg c (x :: xs) ys else x :: mrg c xs (y :: ys)
termination_by xs ys => xs.length + ys.length
theorem mrg_nil_left (ys : List α) : mrg c [] ys = ys := by rw [mrg]
theorem mrg_nil (xs : List α) : mrg c xs [] = xs := by cases xs <;> rw [mrg]
theorem mrg_cons (x y : α) (xs ys : List α) : mrg c (x :: xs) (y :: ys) = if c y x < 0 then y :: mrg c (x :: xs) ys else x :: mrg c xs (y :: ys) := by rw [mrg]
theorem mrg_length : ∀ (n : Nat) (xs ys : List α), xs.length + ys.length ≤ n → (mrg c xs ys).length = xs.length + ys.length
  | _, [], ys, _ => by rw [mrg_nil_left]; simp
  | _, x :: xs, [], _ => by rw [mrg_nil]; simp
  | 0, x :: xs, y :: ys, h => by simp at h
  | n + 1, x :: xs, y :: ys, h => by
    rw [mrg_cons]; split
    · rw [List.length_cons, mrg_length n (x :: xs) ys (by simp at h ⊢; omega)]; simp; omega
    · rw [List.length_cons, mrg_length n xs (y :: ys) (by simp at h ⊢; omega)]; simp; omega
theorem mrg_ins (hc : Lawful c) (z : α) : ∀ (n : Nat) (xs ys : List α), xs.length + ys.length ≤ n → mrg c xs (ins c z ys) = ins c z (mrg c xs ys)
  | _, [], ys, _ => by rw [mrg_nil_left, mrg_nil_left]
  | 0, x :: xs, ys, h => by simp at h
  | n + 1, x :: xs, [], h => by
    have ih := mrg_ins hc z n xs [] (by simp at h ⊢; omega)
    rw [mrg_nil] at ih ⊢
    simp only [ins] at ih ⊢
    rw [mrg_cons]
    split
    · rw [mrg_nil]
    · rw [ih]
  | n + 1, x :: xs, y :: ys, h => by
    have ih1 := mrg_ins hc z n (x :: xs) ys (by simp at h ⊢; omega)
    have ih2 := mrg_ins hc z n xs (y :: ys) (by simp at h ⊢; omega)
    rw [mrg_cons x y xs ys]
    by_cases h1 : c y x < 0
    · rw [if_pos h1]
      by_cases h2 : c z y < 0
      · have h3 : c z x < 0 := hc.lt_of_lt_le h2 (Int.le_of_lt h1)
        simp only [ins, if_pos h2]
        rw [mrg_cons, if_pos h3, mrg_cons, if_pos h1]
      · simp only [ins, if_neg h2]
        rw [mrg_cons, if_pos h1, ih1]
    · rw [if_neg h1]
      have h1' : c x y ≤ 0 := hc.le_flip.2 (by omega)
      by_cases h2 : c z x < 0
      · have h3 : c z y < 0 := hc.lt_of_lt_le h2 h1'
        simp only [ins, if_pos h2, if_pos h3]
        rw [mrg_cons, if_pos h2, mrg_cons, if_neg h1]
      · simp only [ins, if_neg h2] at ih2 ⊢
        by_cases h3 : c z y < 0
        · rw [if_pos h3] at ih2 ⊢
          rw [mrg_cons, if_neg h2, ih2]
        · rw [if_neg h3] at ih2 ⊢
          rw [mrg_cons, if_neg h1, ih2]
theorem mrg_srt (hc : Lawful c) (xs ys : List α) : mrg c (srt c xs) (srt c ys) = srt c (xs ++ ys) := by
  induction ys using rev_ind with
  | h0 => rw [srt_nil, mrg_nil, List.append_nil]
  | h1 ys y ih => rw [srt_snoc, mrg_ins hc y _ _ _ (Nat.le_refl _), ih, ← List.append_assoc, srt_snoc]

/-! ### a piece of a list -/
def seg (xs : List α) (i j : Nat) : List α := (xs.take j).drop i
theorem seg_length (xs : List α) {i j : Nat} (hj : j ≤ xs.length) : (seg xs i j).length = j - i := by simp [seg]; omega
theorem seg_append (xs : List α) {i j k : Nat} (h1 : i ≤ j) (h2 : j ≤ k) : seg xs i j ++ seg xs j k = seg xs i k := by
  unfold seg
  have e : xs.take j = (xs.take k).take j := by rw [List.take_take, Nat.min_eq_left h2]
  rw [e]
  have e2 : seg xs j k = (xs.take k).drop j := rfl
  generalize xs.take k = ys at *
  have e3 : ys.drop i = (ys.take j ++ ys.drop j).drop i := by rw [List.take_append_drop]
  rw [e3, List.drop_append]
  congr 1
  rw [List.length_take]
  rcases Nat.le_total j ys.length with h | h
  · rw [Nat.min_eq_left h, Nat.sub_eq_zero_of_le h1]; rfl
  · rw [List.drop_eq_nil_of_le h]; simp
theorem seg_self (xs : List α) (i : Nat) : seg xs i i = [] := by unfold seg; exact List.drop_eq_nil_of_le (by rw [List.length_take]; omega)
theorem seg_all (xs : List α) : seg xs 0 xs.length = xs := by simp [seg]
theorem seg_cons [Inhabited α] (xs : List α) {i j : Nat} (h : i < j) (hj : j ≤ xs.length) : seg xs i j = el xs i :: seg xs (i + 1) j := by
  unfold seg
  rw [List.drop_eq_getElem_cons (by rw [List.length_take]; omega), el_eq (by omega)]
  simp
theorem seg_snoc_set (xs : List α) {i k : Nat} (v : α) (h : i ≤ k) (hk : k < xs.length) : seg (xs.set k v) i (k + 1) = seg xs i k ++ [v] := by
  unfold seg
  rw [List.take_succ_eq_append_getElem (by rw [List.length_set]; exact hk), List.take_set_of_le (Nat.le_refl _), List.getElem_set_self, List.drop_append_of_le_length (by rw [List.length_take]; omega)]
theorem seg_set (xs : List α) {i j k : Nat} (v : α) (h : j ≤ k) : seg (xs.set k v) i j = seg xs i j := by
  unfold seg; rw [List.take_set_of_le h]
/-- pieces of width w, up to a place, are sorted -/
def SegOK (c : α → α → Int) (w : Nat) (xs F : List α) (upto : Nat) : Prop := ∀ m, m * w < upto → seg F (m * w) (min (m * w + w) xs.length) = srt c (seg xs (m * w) (min (m * w + w) xs.length))
theorem SegOK.one (xs : List α) (n : Nat) : SegOK c 1 xs xs n := by
  intro m _
  rcases Nat.lt_or_ge m xs.length with h | h
  · have e : min (m * 1 + 1) xs.length = m + 1 := by omega
    rw [e, Nat.mul_one]
    have : seg xs m (m + 1) = [xs[m]] := by
      unfold seg
      rw [List.take_succ_eq_append_getElem h, List.drop_append_of_le_length (by rw [List.length_take]; omega), List.drop_eq_nil_of_le (by rw [List.length_take]; omega)]
      rfl
    rw [this]; rfl
  · have e : min (m * 1 + 1) xs.length = xs.length := by omega
    have : seg xs (m * 1) (min (m * 1 + 1) xs.length) = [] := by rw [e]; unfold seg; exact List.drop_eq_nil_of_le (by rw [List.length_take]; omega)
    rw [this]; rfl
theorem SegOK.zero (w : Nat) (xs F : List α) : SegOK c w xs F 0 := fun m h => by omega
theorem SegOK.set {w : Nat} {xs F : List α} {p k : Nat} (h : SegOK c w xs F p) (v : α) (hk : p ≤ k) (hp : ∃ m, p = m * w) : SegOK c w xs (F.set k v) p := by
  intro m hm
  obtain ⟨q, rfl⟩ := hp
  have h1 : m < q := Nat.lt_of_mul_lt_mul_right hm
  have h2 : m * w + w ≤ q * w := by rw [← Nat.succ_mul]; exact Nat.mul_le_mul_right _ h1
  rw [seg_set _ _ (by omega)]
  exact h m hm
/-- a round's beginning -/
theorem merge_start (hc : Lawful c) {w p : Nat} {xs F : List α} (hF : SegOK c w xs F xs.length) (hp : ∃ m, p = m * (2 * w)) (hlt : p < xs.length) (_hw : 0 < w) :
    mrg c (seg F p (min (p + w) xs.length)) (seg F (min (p + w) xs.length) (min (p + 2 * w) xs.length)) = srt c (seg xs p (min (p + 2 * w) xs.length)) := by
  obtain ⟨m, rfl⟩ := hp
  have e1 : m * (2 * w) = (2 * m) * w := by rw [← Nat.mul_assoc, Nat.mul_comm m 2]
  have h1 := hF (2 * m) (by omega)
  rw [← e1] at h1
  rw [h1]
  rcases Nat.lt_or_ge (m * (2 * w) + w) xs.length with h | h
  · have e2 : (2 * m + 1) * w = m * (2 * w) + w := by rw [Nat.succ_mul, ← e1]
    have h2 := hF (2 * m + 1) (by omega)
    rw [e2] at h2
    have e3 : min (m * (2 * w) + w) xs.length = m * (2 * w) + w := by omega
    have e4 : m * (2 * w) + w + w = m * (2 * w) + 2 * w := by omega
    rw [e4] at h2
    rw [e3, h2, mrg_srt hc, seg_append _ (by omega) (by omega)]
  · have e3 : min (m * (2 * w) + w) xs.length = xs.length := by omega
    have e4 : min (m * (2 * w) + 2 * w) xs.length = xs.length := by omega
    rw [e3, e4, seg_self, mrg_nil]
section
variable [Inhabited α]
theorem merge_left {F T : List α} {p a mid b e k : Nat} {D : List α} (h : seg T p k ++ mrg c (seg F a mid) (seg F b e) = D) (ha : a < mid) (hb : b = e ∨ (b < e ∧ 0 ≤ c (el F b) (el F a))) (hmid : mid ≤ F.length) (he : e ≤ F.length) (hp : p ≤ k) (hk : k < T.length) :
    seg (T.set k (el F a)) p (k + 1) ++ mrg c (seg F (a + 1) mid) (seg F b e) = D := by
  rw [← h, seg_snoc_set T _ hp hk, seg_cons F ha hmid, List.append_assoc]
  congr 1
  rcases hb with rfl | ⟨hb, hge⟩
  · rw [seg_self, mrg_nil, mrg_nil]; rfl
  · rw [seg_cons F hb he, mrg_cons, if_neg (by omega)]; rfl
theorem merge_right {F T : List α} {p a mid b e k : Nat} {D : List α} (h : seg T p k ++ mrg c (seg F a mid) (seg F b e) = D) (hb : b < e) (ha : a = mid ∨ (a < mid ∧ c (el F b) (el F a) < 0)) (hmid : mid ≤ F.length) (he : e ≤ F.length) (hp : p ≤ k) (hk : k < T.length) :
    seg (T.set k (el F b)) p (k + 1) ++ mrg c (seg F a mid) (seg F (b + 1) e) = D := by
  rw [← h, seg_snoc_set T _ hp hk, seg_cons F hb he, List.append_assoc]
  congr 1
  rcases ha with rfl | ⟨ha, hlt⟩
  · rw [seg_self, mrg_nil_left, mrg_nil_left]; rfl
  · rw [seg_cons F ha hmid, mrg_cons, if_pos hlt]; rfl
end
theorem merge_end {w p : Nat} {xs T F : List α} {mid : Nat} (hT : SegOK c (2 * w) xs T p) (hp : ∃ m, p = m * (2 * w)) (_hw : 0 < w) (h : seg T p (min (p + 2 * w) xs.length) ++ mrg c (seg F mid mid) (seg F (min (p + 2 * w) xs.length) (min (p + 2 * w) xs.length)) = srt c (seg xs p (min (p + 2 * w) xs.length))) :
    SegOK c (2 * w) xs T (p + 2 * w) := by
  rw [seg_self, seg_self, mrg_nil, List.append_nil] at h
  obtain ⟨q, rfl⟩ := hp
  intro m hm
  rcases Nat.lt_or_ge (m * (2 * w)) (q * (2 * w)) with h1 | h1
  · exact hT m h1
  · have h2 : m = q := by
      have hm2 : m * (2 * w) < (q + 1) * (2 * w) := by rw [Nat.add_mul, Nat.one_mul]; exact hm
      have h3 : m < q + 1 := Nat.lt_of_mul_lt_mul_right hm2
      have h4 : q ≤ m := Nat.le_of_mul_le_mul_right h1 (by omega)
      omega
    subst h2
    exact h
theorem SegOK.mono {w : Nat} {xs F : List α} {p q : Nat} (h : SegOK c w xs F p) (hq : q ≤ p) : SegOK c w xs F q := fun m hm => h m (by omega)
theorem SegOK.done {w : Nat} {xs F : List α} (h : SegOK c w xs F xs.length) (hl : F.length = xs.length) (hw : xs.length ≤ w) : F = srt c xs := by
  rcases Nat.eq_zero_or_pos xs.length with h0 | h0
  · have e1 : F = [] := List.eq_nil_of_length_eq_zero (by omega)
    have e2 : xs = [] := List.eq_nil_of_length_eq_zero (by omega)
    subst e1; subst e2; rfl
  · have := h 0 (by omega)
    rw [Nat.zero_mul, Nat.zero_add, Nat.min_eq_right hw, seg_all] at this
    rw [← this, ← hl, seg_all]
end Go.OrdPure
