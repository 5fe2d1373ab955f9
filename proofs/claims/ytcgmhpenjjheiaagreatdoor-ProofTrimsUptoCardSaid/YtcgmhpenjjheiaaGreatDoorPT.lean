/- Steps of a proof, and those that the last one needs: the plain law. -/
import Derived.Test.YtcgmhpenjjheiaaGreatDoorEl
import Derived.Test.YtcgmhpenjjheiaaGreatDoorV3
namespace Go.PT
open Go.Eng
structure Stp where
  p : ByteArray
  t : List ByteArray
  r : Int
  v : List ByteArray
  f : List Int
instance : Inhabited Stp := ⟨⟨.empty, [], 0, [], []⟩⟩
def GoodS (s : List Stp) : Prop := s ≠ [] ∧ ∀ i, i < s.length → ∀ x ∈ (el s i).f, 0 ≤ x ∧ x < (i : Int)
def mk1 (nd : List Bool) (b : Bool) (f : List Int) : List Bool := f.foldl (fun nd x => nd.set x.toNat (el nd x.toNat || b)) nd
def ndK (s : List Stp) : Nat → List Bool
  | 0 => (List.replicate s.length false).set (s.length - 1) true
  | k + 1 => mk1 (ndK s k) (el (ndK s k) (s.length - 1 - k)) (el s (s.length - 1 - k)).f
def rowAt (s : List Stp) (q : List Int) (i : Nat) : Stp := ⟨(el s i).p, (el s i).t, (el s i).r, (el s i).v, (el s i).f.map fun x => el q x.toNat⟩
def outK (s : List Stp) (nd : List Bool) : Nat → List Int × List Stp
  | 0 => (List.replicate s.length 0, [])
  | i + 1 => if el nd i = true then ((outK s nd i).1.set i ((outK s nd i).2.length : Int), (outK s nd i).2 ++ [rowAt s (outK s nd i).1 i]) else outK s nd i
def nds (s : List Stp) : List Bool := ndK s s.length
def trimL (s : List Stp) : List Stp := (outK s (nds s) s.length).2
theorem mk1_length (f : List Int) : ∀ (nd : List Bool) (b : Bool), (mk1 nd b f).length = nd.length := by
  induction f with
  | nil => intro nd b; rfl
  | cons x f ih => intro nd b; show (mk1 (nd.set x.toNat (el nd x.toNat || b)) b f).length = _; rw [ih, List.length_set]
theorem el_set' {α : Type} [Inhabited α] (l : List α) (i j : Nat) (v : α) (hi : i < l.length) : el (l.set i v) j = if j = i then v else el l j := by
  unfold el
  rw [List.getD_eq_getElem?_getD, List.getD_eq_getElem?_getD, List.getElem?_set]
  by_cases h : i = j
  · subst h; simp [hi]
  · rw [if_neg h, if_neg (Ne.symm h)]
theorem mk1_el (f : List Int) : ∀ (nd : List Bool) (b : Bool), (∀ x ∈ f, x.toNat < nd.length) → ∀ j, (el (mk1 nd b f) j = true ↔ el nd j = true ∨ (b = true ∧ ∃ x ∈ f, x.toNat = j)) := by
  induction f with
  | nil => intro nd b _ j; show el nd j = true ↔ _; simp
  | cons x f ih =>
    intro nd b hf j
    show el (mk1 (nd.set x.toNat (el nd x.toNat || b)) b f) j = true ↔ _
    have hx := hf x (List.mem_cons_self ..)
    rw [ih _ b (fun y hy => by rw [List.length_set]; exact hf y (List.mem_cons_of_mem _ hy)) j, el_set' _ _ _ _ hx]
    constructor
    · rintro (h | ⟨hb, y, hy, e⟩)
      · split at h
        · rename_i e
          rw [Bool.or_eq_true] at h
          rcases h with h | h
          · rw [e]; exact .inl h
          · exact .inr ⟨h, x, List.mem_cons_self .., e.symm⟩
        · exact .inl h
      · exact .inr ⟨hb, y, List.mem_cons_of_mem _ hy, e⟩
    · rintro (h | ⟨hb, y, hy, e⟩)
      · left
        split
        · rename_i e; rw [← e, h]; rfl
        · exact h
      · rcases List.mem_cons.1 hy with rfl | hy
        · left; rw [if_pos e.symm, hb, Bool.or_true]
        · exact .inr ⟨hb, y, hy, e⟩
theorem mk1_no (f : List Int) : ∀ (nd : List Bool), (∀ x ∈ f, x.toNat < nd.length) → mk1 nd false f = nd := by
  induction f with
  | nil => intro nd _; rfl
  | cons x f ih =>
    intro nd hf
    show mk1 (nd.set x.toNat (el nd x.toNat || false)) false f = nd
    have hx := hf x (List.mem_cons_self ..)
    have : nd.set x.toNat (el nd x.toNat || false) = nd := by
      rw [Bool.or_false]
      apply List.ext_getElem?
      intro k
      rw [List.getElem?_set]
      by_cases h : x.toNat = k
      · subst h; rw [if_pos rfl, if_pos hx, el_eq hx, List.getElem?_eq_getElem hx]
      · rw [if_neg h]
    rw [this]
    exact ih nd fun y hy => hf y (List.mem_cons_of_mem _ hy)
theorem mk1_yes (f : List Int) : ∀ (nd : List Bool), mk1 nd true f = f.foldl (fun nd x => nd.set x.toNat true) nd := by
  induction f with
  | nil => intro nd; rfl
  | cons x f ih =>
    intro nd
    show mk1 (nd.set x.toNat (el nd x.toNat || true)) true f = _
    rw [ih, Bool.or_true]; rfl
section
variable {s : List Stp}
theorem ndK_length (s : List Stp) : ∀ k, (ndK s k).length = s.length
  | 0 => by simp [ndK]
  | k + 1 => by rw [ndK, mk1_length, ndK_length s k]
theorem f_lt (h : GoodS s) {i : Nat} (hi : i < s.length) {x : Int} (hx : x ∈ (el s i).f) : x.toNat < i ∧ (x.toNat : Int) = x := by
  have := h.2 i hi x hx
  omega
theorem ndK_spec (h : GoodS s) : ∀ k, k ≤ s.length → ∀ j, j < s.length → (el (ndK s k) j = true ↔ j = s.length - 1 ∨ ∃ i, s.length - k ≤ i ∧ i < s.length ∧ el (ndK s k) i = true ∧ (j : Int) ∈ (el s i).f) := by
  intro k
  have hn : 0 < s.length := List.length_pos_iff.2 h.1
  induction k with
  | zero =>
    intro _ j hj
    rw [ndK, el_set' _ _ _ _ (by rw [List.length_replicate]; omega)]
    constructor
    · intro he
      split at he
      · rename_i e; exact .inl e
      · exfalso
        simp [el, List.getD_eq_getElem?_getD, hj] at he
    · rintro (e | ⟨i, h1, h2, _⟩)
      · rw [if_pos e]
      · omega
  | succ k ih =>
    intro hk j hj
    have ih := ih (by omega)
    have hi0 : s.length - 1 - k < s.length := by omega
    have hin : ∀ x ∈ (el s (s.length - 1 - k)).f, x.toNat < (ndK s k).length := fun x hx => by rw [ndK_length]; have := (f_lt h hi0 hx).1; omega
    have hel := mk1_el (el s (s.length - 1 - k)).f (ndK s k) (el (ndK s k) (s.length - 1 - k)) hin
    have same : ∀ i, s.length - 1 - k ≤ i → (el (ndK s (k + 1)) i = true ↔ el (ndK s k) i = true) := by
      intro i hi
      rw [ndK, hel]
      refine ⟨fun hh => hh.elim id fun ⟨_, x, hx, e⟩ => ?_, .inl⟩
      have := (f_lt h hi0 hx).1; omega
    have step : el (ndK s (k + 1)) j = true ↔ el (ndK s k) j = true ∨ (el (ndK s k) (s.length - 1 - k) = true ∧ ∃ x ∈ (el s (s.length - 1 - k)).f, x.toNat = j) := by rw [ndK, hel]
    rw [step, ih j hj]
    constructor
    · rintro ((e | ⟨i, h1, h2, h3, h4⟩) | ⟨h1, x, hx, e⟩)
      · exact .inl e
      · exact .inr ⟨i, by omega, h2, (same i (by omega)).2 h3, h4⟩
      · refine .inr ⟨s.length - 1 - k, by omega, hi0, (same _ (Nat.le_refl _)).2 h1, ?_⟩
        rw [← e, (f_lt h hi0 hx).2]; exact hx
    · rintro (e | ⟨i, h1, h2, h3, h4⟩)
      · exact .inl (.inl e)
      · by_cases he : i = s.length - 1 - k
        · subst he
          exact .inr ⟨(same _ (Nat.le_refl _)).1 h3, _, h4, by omega⟩
        · exact .inl (.inr ⟨i, by omega, h2, (same i (by omega)).1 h3, h4⟩)
theorem nds_spec (h : GoodS s) {j : Nat} (hj : j < s.length) : el (nds s) j = true ↔ j = s.length - 1 ∨ ∃ i, i < s.length ∧ el (nds s) i = true ∧ (j : Int) ∈ (el s i).f := by
  have := ndK_spec h s.length (Nat.le_refl _) j hj
  rw [Nat.sub_self] at this
  unfold nds
  rw [this]
  exact ⟨fun hh => hh.imp id fun ⟨i, _, h2, h3, h4⟩ => ⟨i, h2, h3, h4⟩, fun hh => hh.imp id fun ⟨i, h2, h3, h4⟩ => ⟨i, Nat.zero_le _, h2, h3, h4⟩⟩
/-- how many are needed ahead of a place -/
def cnt (nd : List Bool) : Nat → Nat
  | 0 => 0
  | i + 1 => if el nd i = true then cnt nd i + 1 else cnt nd i
theorem cnt_mono (nd : List Bool) {i j : Nat} (h : i ≤ j) : cnt nd i ≤ cnt nd j := by
  induction j with
  | zero => rw [Nat.le_zero.1 h]; exact Nat.le_refl _
  | succ j ih =>
    by_cases he : i = j + 1
    · rw [he]; exact Nat.le_refl _
    · have := ih (by omega)
      simp only [cnt]; split <;> omega
theorem cnt_lt (nd : List Bool) {i j : Nat} (hi : el nd i = true) (h : i < j) : cnt nd i < cnt nd j := by
  have h1 := cnt_mono nd (show i + 1 ≤ j from h)
  simp only [cnt, if_pos hi] at h1
  omega
theorem cnt_onto (nd : List Bool) : ∀ n q, q < cnt nd n → ∃ j, j < n ∧ el nd j = true ∧ cnt nd j = q
  | 0, q, h => by simp [cnt] at h
  | n + 1, q, h => by
    by_cases hn : el nd n = true
    · simp only [cnt, if_pos hn] at h
      by_cases he : q = cnt nd n
      · exact ⟨n, by omega, hn, he.symm⟩
      · obtain ⟨j, h1, h2, h3⟩ := cnt_onto nd n q (by omega)
        exact ⟨j, by omega, h2, h3⟩
    · simp only [cnt, if_neg hn] at h
      obtain ⟨j, h1, h2, h3⟩ := cnt_onto nd n q h
      exact ⟨j, by omega, h2, h3⟩
def rowC (s : List Stp) (nd : List Bool) (j : Nat) : Stp := ⟨(el s j).p, (el s j).t, (el s j).r, (el s j).v, (el s j).f.map fun x => (cnt nd x.toNat : Int)⟩
theorem outK_length (s : List Stp) (nd : List Bool) : ∀ i, (outK s nd i).1.length = s.length
  | 0 => by simp [outK]
  | i + 1 => by
    rw [outK]; split
    · rw [List.length_set]; exact outK_length s nd i
    · exact outK_length s nd i
theorem el_app1 {α : Type} [Inhabited α] (l : List α) (x : α) (j : Nat) : el (l ++ [x]) j = if j = l.length then x else el l j := by
  unfold el
  rw [List.getD_eq_getElem?_getD, List.getD_eq_getElem?_getD]
  rcases Nat.lt_trichotomy j l.length with h | h | h
  · rw [List.getElem?_append_left h, if_neg (by omega)]
  · subst h; simp
  · rw [if_neg (by omega), List.getElem?_eq_none (by simp; omega), List.getElem?_eq_none (by omega)]
theorem outK_spec (h : GoodS s) (nd : List Bool) (hc : ∀ j, j < s.length → el nd j = true → ∀ x ∈ (el s j).f, el nd x.toNat = true) : ∀ i, i ≤ s.length → (outK s nd i).2.length = cnt nd i ∧ (∀ j, j < i → el nd j = true → el (outK s nd i).1 j = (cnt nd j : Int)) ∧ ∀ j, j < i → el nd j = true → el (outK s nd i).2 (cnt nd j) = rowC s nd j
  | 0, _ => ⟨rfl, fun j hj => by omega, fun j hj => by omega⟩
  | i + 1, hi => by
    obtain ⟨h1, h2, h3⟩ := outK_spec h nd hc i (by omega)
    by_cases hn : el nd i = true
    · simp only [outK, if_pos hn, cnt]
      refine ⟨by simp [h1], fun j hj hj' => ?_, fun j hj hj' => ?_⟩
      · rw [el_set' _ _ _ _ (by rw [outK_length]; omega)]
        split
        · rename_i e; subst e; rw [h1]
        · exact h2 j (by omega) hj'
      · rw [el_app1, h1]
        split
        · rename_i e
          have : j = i := by
            rcases Nat.lt_or_ge j i with hlt | hge
            · have := cnt_lt nd hj' hlt; omega
            · omega
          subst this
          unfold rowAt rowC
          congr 1
          refine List.map_congr_left fun x hx => ?_
          exact h2 x.toNat (f_lt h (by omega) hx).1 (hc j (by omega) hn x hx)
        · rename_i e
          refine h3 j ?_ hj'
          rcases Nat.lt_or_ge j i with hlt | hge
          · exact hlt
          · exact absurd (by rw [show j = i by omega]) e
    · simp only [outK, if_neg hn, cnt]
      have ne : ∀ j, j < i + 1 → el nd j = true → j < i := fun j hj hj' => by
        rcases Nat.lt_or_ge j i with hlt | hge
        · exact hlt
        · rw [show j = i by omega] at hj'; exact absurd hj' hn
      exact ⟨h1, fun j hj hj' => h2 j (ne j hj hj') hj', fun j hj hj' => h3 j (ne j hj hj') hj'⟩
theorem nds_closed (h : GoodS s) : ∀ j, j < s.length → el (nds s) j = true → ∀ x ∈ (el s j).f, el (nds s) x.toNat = true := fun j hj hn x hx => by
  have := f_lt h hj hx
  rw [nds_spec h (by omega)]
  exact .inr ⟨j, hj, hn, by rw [this.2]; exact hx⟩
theorem trimL_length (h : GoodS s) : (trimL s).length = cnt (nds s) s.length := (outK_spec h (nds s) (nds_closed h) s.length (Nat.le_refl _)).1
theorem trimL_el (h : GoodS s) {j : Nat} (hj : j < s.length) (hn : el (nds s) j = true) : el (trimL s) (cnt (nds s) j) = rowC s (nds s) j := (outK_spec h (nds s) (nds_closed h) s.length (Nat.le_refl _)).2.2 j hj hn
theorem trimL_good (h : GoodS s) : GoodS (trimL s) := by
  have hn : 0 < s.length := List.length_pos_iff.2 h.1
  have hlast : el (nds s) (s.length - 1) = true := (nds_spec h (by omega)).2 (.inl rfl)
  refine ⟨fun e => ?_, fun q hq x hx => ?_⟩
  · have h1 := trimL_length h
    rw [e] at h1
    have := cnt_lt (nds s) hlast (show s.length - 1 < s.length by omega)
    simp at h1; omega
  · rw [trimL_length h] at hq
    obtain ⟨j, h1, h2, rfl⟩ := cnt_onto _ _ _ hq
    rw [trimL_el h h1 h2] at hx
    obtain ⟨y, hy, rfl⟩ := List.mem_map.1 hx
    have := f_lt h h1 hy
    have := cnt_lt (nds s) (nds_closed h j h1 h2 y hy) this.1
    omega
theorem trimL_all (h : GoodS s) {q : Nat} (hq : q < (trimL s).length) : el (nds (trimL s)) q = true := by
  have ho := trimL_good h
  have hn : 0 < s.length := List.length_pos_iff.2 h.1
  have hlast : el (nds s) (s.length - 1) = true := (nds_spec h (by omega)).2 (.inl rfl)
  have hm := trimL_length h
  have key : ∀ d j, j + d + 1 = s.length → el (nds s) j = true → el (nds (trimL s)) (cnt (nds s) j) = true := by
    intro d
    induction d using Nat.strongRecOn with
    | _ d ih =>
      intro j hj hnj
      have hlt : cnt (nds s) j < (trimL s).length := by rw [hm]; exact cnt_lt _ hnj (by omega)
      rw [nds_spec ho hlt]
      rcases (nds_spec h (show j < s.length by omega)).1 hnj with e | ⟨i, h1, h2, h3⟩
      · left
        have e2 : cnt (nds s) s.length = cnt (nds s) j + 1 := by
          have : s.length = j + 1 := by omega
          rw [this]; simp only [cnt, if_pos hnj]
        omega
      · right
        have hji := (f_lt h h1 h3).1
        have hji : j < i := by omega
        refine ⟨cnt (nds s) i, by rw [hm]; exact cnt_lt _ h2 h1, ih (s.length - 1 - i) (by omega) i (by omega) h2, ?_⟩
        rw [trimL_el h h1 h2]
        exact List.mem_map.2 ⟨_, h3, by simp⟩
  rw [hm] at hq
  obtain ⟨j, h1, h2, rfl⟩ := cnt_onto _ _ _ hq
  exact key (s.length - 1 - j) j (by omega) h2
theorem cnt_all {nd : List Bool} {n : Nat} (h : ∀ q, q < n → el nd q = true) : ∀ q, q ≤ n → cnt nd q = q
  | 0, _ => rfl
  | q + 1, hq => by rw [cnt, if_pos (h q (by omega)), cnt_all h q (by omega)]
/-- trimmed once more: the same -/
theorem trimL_again (h : GoodS s) : trimL (trimL s) = trimL s := by
  have ho := trimL_good h
  have hall := fun q (hq : q < (trimL s).length) => trimL_all h hq
  have hc := cnt_all hall
  have hlen : (trimL (trimL s)).length = (trimL s).length := by rw [trimL_length ho, hc _ (Nat.le_refl _)]
  refine List.ext_getElem hlen fun q h1 h2 => ?_
  rw [← el_eq h1, ← el_eq h2]
  have := trimL_el ho h2 (hall q h2)
  rw [hc q (by omega)] at this
  rw [this]
  unfold rowC
  have e : ((el (trimL s) q).f.map fun x => (cnt (nds (trimL s)) x.toNat : Int)) = (el (trimL s) q).f := by
    conv => rhs; rw [← List.map_id (el (trimL s) q).f]
    refine List.map_congr_left fun x hx => ?_
    have := f_lt ho h2 hx
    rw [hc x.toNat (by omega), this.2]; rfl
  rw [e]
end
section
open Classical
noncomputable def errT (s : List Stp) : Int := if GoodS s then 0 else 2
noncomputable def resT (s : List Stp) : List Stp := if GoodS s then trimL s else []
end
section
variable {s : List Stp}
theorem errT_good (h : GoodS s) : errT s = 0 := if_pos h
theorem errT_bad (h : ¬ GoodS s) : errT s = 2 := if_neg h
theorem resT_good (h : GoodS s) : resT s = trimL s := if_pos h
theorem resT_bad (h : ¬ GoodS s) : resT s = [] := if_neg h
theorem good_nil : ¬ GoodS [] := fun h => h.1 rfl
theorem resT_again (s : List Stp) : resT (resT s) = resT s := by
  by_cases h : GoodS s
  · rw [resT_good h, resT_good (trimL_good h), trimL_again h]
  · rw [resT_bad h, resT_bad good_nil]
theorem errT_again (h : errT s = 0) : errT (resT s) = 0 := by
  by_cases hg : GoodS s
  · rw [resT_good hg]; exact errT_good (trimL_good hg)
  · rw [errT_bad hg] at h; cases h
/-- what is told of every step is told of those that are left -/
theorem resT_all {Q : Stp → Prop} (h : ∀ i, i < s.length → Q (el s i)) (hq : ∀ x f, f.length = x.f.length → Q x → Q ⟨x.p, x.t, x.r, x.v, f⟩) : ∀ q, q < (resT s).length → Q (el (resT s) q) := by
  intro q hlt
  by_cases hg : GoodS s
  · rw [resT_good hg] at hlt ⊢
    rw [trimL_length hg] at hlt
    obtain ⟨j, h1, h2, rfl⟩ := cnt_onto _ _ _ hlt
    rw [trimL_el hg h1 h2]
    exact hq _ _ (List.length_map _) (h j h1)
  · rw [resT_bad hg] at hlt; exact absurd hlt (Nat.not_lt_zero _)
theorem cnt_le (nd : List Bool) : ∀ n, cnt nd n ≤ n
  | 0 => Nat.le_refl _
  | n + 1 => by have := cnt_le nd n; simp only [cnt]; split <;> omega
theorem resT_le (s : List Stp) : (resT s).length ≤ s.length := by
  by_cases hg : GoodS s
  · rw [resT_good hg, trimL_length hg]; exact cnt_le _ _
  · rw [resT_bad hg]; exact Nat.zero_le _
/-- the marks of one step's reasons, one by one -/
theorem mk1_step {nd : List Bool} {b : Bool} {f : List Int} {j : Nat} (hj : j < f.length) : mk1 nd b (f.take (j + 1)) = (mk1 nd b (f.take j)).set (el f j).toNat (el (mk1 nd b (f.take j)) (el f j).toNat || b) := by
  rw [show f.take (j + 1) = f.take j ++ [el f j] by rw [List.take_succ_eq_append_getElem hj, el_eq hj]]
  unfold mk1
  rw [List.foldl_append]
  rfl
theorem mk1_here {nd : List Bool} {b : Bool} {f : List Int} {i : Nat} (hf : ∀ x ∈ f, x.toNat < i) (hl : i < nd.length) : el (mk1 nd b f) i = el nd i := by
  have h := mk1_el f nd b (fun x hx => Nat.lt_trans (hf x hx) hl) i
  cases h1 : el (mk1 nd b f) i <;> cases h2 : el nd i
  · rfl
  · exact absurd (h.2 (.inl h2)) (by rw [h1]; exact Bool.false_ne_true)
  · rcases h.1 h1 with h3 | ⟨_, x, hx, e⟩
    · rw [h2] at h3; cases h3
    · have := hf x hx; omega
  · rfl
end
end Go.PT
namespace Go.Eng
open Go.RowKit
section
variable {α : Type} {E : En α} {h : Array Obj} {a : Option Addr} {m c k : Nat} {xs ys : List α}
theorem Srm.pre (hs : Srm E h a m c (xs ++ ys)) (hk : xs.length = k) : Srm E h a k c xs := by
  have hl := hs.len
  rw [List.length_append] at hl
  have := Src.take E.len (j := k) hs (by omega) (by rw [List.length_append]; omega)
  rw [List.take_append_of_le_length (by omega), List.take_of_length_le (by omega)] at this
  exact this
theorem Srm.cast {m' : Nat} (hs : Srm E h a m c xs) (e : m = m') : Srm E h a m' c xs := e ▸ hs
end
end Go.Eng
namespace Go.PT
open Go.Eng Go.RowKit
structure Hd where
  ta : Option Addr
  tc : Nat
  va : Option Addr
  vc : Nat
  fa : Option Addr
  fc : Nat
instance : Inhabited Hd := ⟨⟨none, 0, none, 0, none, 0⟩⟩
abbrev Rw := Stp × Hd
abbrev eR : En Rw := ⟨fun x => [.string x.1.p, .slice x.2.ta x.1.t.length x.2.tc, .int .i64 x.1.r, .slice x.2.va x.1.v.length x.2.vc, .slice x.2.fa x.1.f.length x.2.fc], 5, fun _ => rfl, by decide, fun _ => rfl⟩
abbrev Hdr := Option Addr × Nat × Nat
abbrev eL : En Hdr := ⟨fun x => [.slice x.1 x.2.1 x.2.2], 1, fun _ => rfl, by decide, fun _ => rfl⟩
/-- a step's lists -/
def Stq (h : Array Obj) (x : Rw) : Prop := Srm eS h x.2.ta x.1.t.length x.2.tc x.1.t ∧ Srm eS h x.2.va x.1.v.length x.2.vc x.1.v ∧ Srm eI h x.2.fa x.1.f.length x.2.fc x.1.f
/-- steps that are read -/
def Sts (h : Array Obj) (a : Option Addr) (m c : Nat) (xs : List Rw) : Prop := Srm eR h a m c xs ∧ ∀ i, i < m → Stq h (el xs i)
section
variable {S : Nat → Prop} {w0 w w' : World} {L : List Ch} {h : Array Obj} {a : Option Addr} {m c i : Nat} {xs : List Rw}
theorem Stq.ext {x : Rw} (hs : Stq w.heap x) (k : Ext w w') : Stq w'.heap x := ⟨hs.1.ext k, hs.2.1.ext k, hs.2.2.ext k⟩
theorem Sts.ext (hs : Sts w.heap a m c xs) (k : Ext w w') : Sts w'.heap a m c xs := ⟨hs.1.ext k, fun i hi => (hs.2 i hi).ext k⟩
theorem Sts.e (hs : Sts w.heap a m c xs) (H : Hp No w w' L) : Sts w'.heap a m c xs := hs.ext H.x
/-- a step's own lists -/
def pR (T U : TypeId) (x : Rw) : Ch := two (cQ T eS x.2.ta x.1.t.length x.2.tc x.1.t) (two (cQ T eS x.2.va x.1.v.length x.2.vc x.1.v) (cQ U eI x.2.fa x.1.f.length x.2.fc x.1.f))
theorem pR.stq {T U : TypeId} {x : Rw} (hs : (pR T U x).says h) : Stq h x := ⟨cQ.sr hs.1, cQ.sr hs.2.1.1, cQ.sr hs.2.1.2.1⟩
/-- likewise, as lent: marks behind each -/
def pL (T U : TypeId) (mk : ByteArray) (x : Rw) : Ch := two (cQ T eS x.2.ta (x.1.t.length + 3) x.2.tc (x.1.t ++ [mk, mk, mk])) (two (cQ T eS x.2.va (x.1.v.length + 3) x.2.vc (x.1.v ++ [mk, mk, mk])) (cQ U eI x.2.fa (x.1.f.length + 2) x.2.fc (x.1.f ++ [-70, -71])))
theorem pL.stq {T U : TypeId} {mk : ByteArray} {x : Rw} (hs : (pL T U mk x).says h) : Stq h x := ⟨(cQ.sr hs.1).pre rfl, (cQ.sr hs.2.1.1).pre rfl, (cQ.sr hs.2.1.2.1).pre rfl⟩
theorem Hp.sts {T T9 U : TypeId} (H : Hp S w0 w L) (i j : Nat) (hi : L[i]? = some (cQ T eR a m c xs)) (hj : L[j]? = some (cF m fun k => pR T9 U (el xs k))) : Sts w.heap a m c xs :=
  ⟨cQ.sr (H.at i hi), fun k hk => pR.stq ((H.at j hj).1 k hk)⟩
theorem Hp.stl {T T9 U : TypeId} {mk : ByteArray} {z : Rw} (H : Hp S w0 w L) (i j : Nat) (hi : L[i]? = some (cQ T eR a (m + 1) c (xs ++ [z]))) (hj : L[j]? = some (cF m fun k => pL T9 U mk (el xs k))) : Sts w.heap a m c xs := by
  have h1 : Srm eR w.heap a (m + 1) c (xs ++ [z]) := cQ.sr (H.at i hi)
  have hl := h1.len
  rw [List.length_append, List.length_singleton] at hl
  exact ⟨h1.pre (by omega), fun k hk => pL.stq ((H.at j hj).1 k hk)⟩
/-- rows said by another list's words -/
theorem Sts.cell2 {ys : List Rw} (hs : Sts h a m c ys) (hE : ∀ i, i < m → (el xs i).1 = (el ys i).1) (hi : i < m) : Cells h (ab a) (ao a + i * 5) [.string (el xs i).1.p, .slice (el ys i).2.ta (el xs i).1.t.length (el ys i).2.tc, .int .i64 (el xs i).1.r, .slice (el ys i).2.va (el xs i).1.v.length (el ys i).2.vc, .slice (el ys i).2.fa (el xs i).1.f.length (el ys i).2.fc] := by
  rw [hE i hi]
  exact hs.1.cell hi
theorem Sts.stq2 {ys : List Rw} (hs : Sts h a m c ys) (hE : ∀ i, i < m → (el xs i).1 = (el ys i).1) (hi : i < m) : Srm eS h (el ys i).2.ta (el xs i).1.t.length (el ys i).2.tc (el xs i).1.t ∧ Srm eS h (el ys i).2.va (el xs i).1.v.length (el ys i).2.vc (el xs i).1.v ∧ Srm eI h (el ys i).2.fa (el xs i).1.f.length (el ys i).2.fc (el xs i).1.f := by
  rw [hE i hi]
  exact hs.2 i hi
/-- steps as lent: marks behind them and behind each of their lists -/
structure Lnt (h : Array Obj) (mk : ByteArray) (a : Option Addr) (m c : Nat) (zs : List Rw) (zm : Rw) : Prop where
  row : Srm eR h a (m + 1) c (zs ++ [zm])
  mark : zm.1.r = -77
  t : ∀ i, i < m → Srm eS h (el zs i).2.ta ((el zs i).1.t.length + 3) (el zs i).2.tc ((el zs i).1.t ++ [mk, mk, mk])
  v : ∀ i, i < m → Srm eS h (el zs i).2.va ((el zs i).1.v.length + 3) (el zs i).2.vc ((el zs i).1.v ++ [mk, mk, mk])
  f : ∀ i, i < m → Srm eI h (el zs i).2.fa ((el zs i).1.f.length + 2) (el zs i).2.fc ((el zs i).1.f ++ [-70, -71])
section
variable {mk : ByteArray} {zs : List Rw} {zm : Rw}
theorem Lnt.ext (l : Lnt w.heap mk a m c zs zm) (x : Ext w w') : Lnt w'.heap mk a m c zs zm := ⟨l.row.ext x, l.mark, fun i hi => (l.t i hi).ext x, fun i hi => (l.v i hi).ext x, fun i hi => (l.f i hi).ext x⟩
theorem Lnt.len (l : Lnt h mk a m c zs zm) : zs.length = m := by
  have := l.row.len
  rw [List.length_append, List.length_singleton] at this
  omega
theorem Lnt.sts (l : Lnt h mk a m c zs zm) : Sts h a m c zs := ⟨l.row.pre l.len, fun i hi => ⟨(l.t i hi).pre rfl, (l.v i hi).pre rfl, (l.f i hi).pre rfl⟩⟩
theorem Lnt.m77 (l : Lnt h mk a m c zs zm) : Cells h (ab a) (ao a + m * 5) [.string zm.1.p, .slice zm.2.ta zm.1.t.length zm.2.tc, .int .i64 (-77), .slice zm.2.va zm.1.v.length zm.2.vc, .slice zm.2.fa zm.1.f.length zm.2.fc] := by
  have h1 := l.row.cell (i := m) (by omega)
  have e : el (zs ++ [zm]) m = zm := by
    have := l.len
    subst this
    simp [el, List.getD_eq_getElem?_getD]
  rw [e] at h1
  have h2 : eR.enc zm = [.string zm.1.p, .slice zm.2.ta zm.1.t.length zm.2.tc, .int .i64 zm.1.r, .slice zm.2.va zm.1.v.length zm.2.vc, .slice zm.2.fa zm.1.f.length zm.2.fc] := rfl
  rw [h2, l.mark] at h1
  exact h1
theorem m70 {f : List Int} {fa : Option Addr} {fc : Nat} (hs : Srm eI h fa (f.length + 2) fc (f ++ [-70, -71])) : Cells h (ab fa) (ao fa + f.length * 1) [.int .i64 (-70)] := by
  have h1 := hs.cell (i := f.length) (by omega)
  have e : el (f ++ [-70, -71]) f.length = -70 := by simp [el, List.getD_eq_getElem?_getD]
  rw [e] at h1
  exact h1
theorem m71 {f : List Int} {fa : Option Addr} {fc : Nat} (hs : Srm eI h fa (f.length + 2) fc (f ++ [-70, -71])) : Cells h (ab fa) (ao fa + (f.length + 1) * 1) [.int .i64 (-71)] := by
  have h1 := hs.cell (i := f.length + 1) (by omega)
  have e : el (f ++ [-70, -71]) (f.length + 1) = -71 := by simp [el, List.getD_eq_getElem?_getD]
  rw [e] at h1
  exact h1
section
variable {ys : List Rw}
theorem Lnt.t2 (l : Lnt h mk a m c zs zm) (hE : ∀ i, i < m → (el xs i).1 = (el zs i).1) (hi : i < m) : Srm eS h (el zs i).2.ta ((el xs i).1.t.length + 3) (el zs i).2.tc ((el xs i).1.t ++ [mk, mk, mk]) := by rw [hE i hi]; exact l.t i hi
theorem Lnt.v2 (l : Lnt h mk a m c zs zm) (hE : ∀ i, i < m → (el xs i).1 = (el zs i).1) (hi : i < m) : Srm eS h (el zs i).2.va ((el xs i).1.v.length + 3) (el zs i).2.vc ((el xs i).1.v ++ [mk, mk, mk]) := by rw [hE i hi]; exact l.v i hi
theorem Lnt.f2 (l : Lnt h mk a m c zs zm) (hE : ∀ i, i < m → (el xs i).1 = (el zs i).1) (hi : i < m) : Srm eI h (el zs i).2.fa ((el xs i).1.f.length + 2) (el zs i).2.fc ((el xs i).1.f ++ [-70, -71]) := by rw [hE i hi]; exact l.f i hi
end
section
variable {ss : List Stp}
/-- rows said by the steps' words -/
theorem Sts.cellS (hs : Sts h a m c xs) (hE : ∀ i, i < m → el ss i = (el xs i).1) (hi : i < m) : Cells h (ab a) (ao a + i * 5) [.string (el ss i).p, .slice (el xs i).2.ta (el ss i).t.length (el xs i).2.tc, .int .i64 (el ss i).r, .slice (el xs i).2.va (el ss i).v.length (el xs i).2.vc, .slice (el xs i).2.fa (el ss i).f.length (el xs i).2.fc] := by
  rw [hE i hi]
  exact hs.1.cell hi
theorem Sts.stS (hs : Sts h a m c xs) (hE : ∀ i, i < m → el ss i = (el xs i).1) (hi : i < m) : Srm eS h (el xs i).2.ta (el ss i).t.length (el xs i).2.tc (el ss i).t ∧ Srm eS h (el xs i).2.va (el ss i).v.length (el xs i).2.vc (el ss i).v ∧ Srm eI h (el xs i).2.fa (el ss i).f.length (el xs i).2.fc (el ss i).f := by
  rw [hE i hi]
  exact hs.2 i hi
end
end
end
end Go.PT
namespace Go.PT
open Go.Eng
theorem el_mem {α : Type} [Inhabited α] {l : List α} {j : Nat} (h : j < l.length) : el l j ∈ l := by rw [el_eq h]; exact List.getElem_mem h
section
variable {s : List Stp} {xs : List Rw} {m i j : Nat}
/-- a reason that is out of bounds -/
theorem bad_at (hi : i < s.length) (hj : j < (el s i).f.length) (h : el (el s i).f j < 0 ∨ (i : Int) ≤ el (el s i).f j) : ¬ GoodS s := fun g => by
  have := g.2 i hi (el (el s i).f j) (by rw [el_eq hj]; exact List.getElem_mem hj)
  omega
/-- the steps from a place on are right so far -/
def GoodF (s : List Stp) (lo : Nat) : Prop := ∀ i, lo ≤ i → i < s.length → ∀ x ∈ (el s i).f, 0 ≤ x ∧ x < (i : Int)
theorem GoodF.all (h : GoodF s 0) (hs : 0 < s.length) : GoodS s := ⟨List.length_pos_iff.1 hs, fun i hi => h i (Nat.zero_le _) hi⟩
/-- one more of them -/
theorem GoodF.step (h : GoodF s (i + 1)) (hi : ∀ j, j < (el s i).f.length → 0 ≤ el (el s i).f j ∧ el (el s i).f j < (i : Int)) : GoodF s i := fun k hk hks x hx => by
  by_cases e : k = i
  · subst e
    obtain ⟨j, hj, rfl⟩ := List.getElem_of_mem hx
    rw [← el_eq hj]
    exact hi j hj
  · exact h k (by omega) hks x hx
/-- likewise from the front -/
def GoodB (s : List Stp) (hi : Nat) : Prop := ∀ i, i < hi → ∀ x ∈ (el s i).f, 0 ≤ x ∧ x < (i : Int)
theorem GoodB.all (h : GoodB s s.length) (hs : 0 < s.length) : GoodS s := ⟨List.length_pos_iff.1 hs, fun i hi => h i hi⟩
theorem GoodB.step (h : GoodB s i) (hi : ∀ j, j < (el s i).f.length → 0 ≤ el (el s i).f j ∧ el (el s i).f j < (i : Int)) : GoodB s (i + 1) := fun k hk x hx => by
  by_cases e : k = i
  · subst e
    obtain ⟨j, hj, rfl⟩ := List.getElem_of_mem hx
    rw [← el_eq hj]
    exact hi j hj
  · exact h k (by omega) x hx
/-- the needs of step i, j of its reasons gone over -/
def ndJ (s : List Stp) (i j : Nat) : List Bool := mk1 (ndK s (s.length - 1 - i)) (el (ndK s (s.length - 1 - i)) i) ((el s i).f.take j)
theorem ndJ_length (s : List Stp) (i j : Nat) : (ndJ s i j).length = s.length := by rw [ndJ, mk1_length, ndK_length]
theorem ndJ_zero (s : List Stp) (i : Nat) : ndJ s i 0 = ndK s (s.length - 1 - i) := by rw [ndJ, List.take_zero]; rfl
theorem ndJ_end (hi : i < s.length) : ndJ s i (el s i).f.length = ndK s (s.length - i) := by
  rw [ndJ, List.take_length, show s.length - i = s.length - 1 - i + 1 by omega, ndK, show s.length - 1 - (s.length - 1 - i) = i by omega]
theorem ndJ_here (hi : i < s.length) (hr : ∀ k, k < j → 0 ≤ el (el s i).f k ∧ el (el s i).f k < (i : Int)) : el (ndJ s i j) i = el (ndK s (s.length - 1 - i)) i := by
  refine mk1_here (fun x hx => ?_) (by rw [ndK_length]; exact hi)
  obtain ⟨k, hk, rfl⟩ := List.getElem_of_mem hx
  rw [List.length_take] at hk
  have := hr k (by omega)
  rw [List.getElem_take, ← el_eq (by omega)]
  omega
theorem ndJ_step (hi : i < s.length) (hj : j < (el s i).f.length) (hr : ∀ k, k < j → 0 ≤ el (el s i).f k ∧ el (el s i).f k < (i : Int)) : ndJ s i (j + 1) = (ndJ s i j).set (el (el s i).f j).toNat (el (ndJ s i j) (el (el s i).f j).toNat || el (ndJ s i j) i) := by
  rw [ndJ_here hi hr]
  exact mk1_step hj
theorem ndJ_yes (hi : i < s.length) (hj : j < (el s i).f.length) (hr : ∀ k, k < j → 0 ≤ el (el s i).f k ∧ el (el s i).f k < (i : Int)) (h : el (ndJ s i j) (el (el s i).f j).toNat = true) : ndJ s i (j + 1) = (ndJ s i j).set (el (el s i).f j).toNat true := by
  rw [ndJ_step hi hj hr, h]; rfl
theorem ndJ_no (hi : i < s.length) (hj : j < (el s i).f.length) (hr : ∀ k, k < j → 0 ≤ el (el s i).f k ∧ el (el s i).f k < (i : Int)) (h : ¬ el (ndJ s i j) (el (el s i).f j).toNat = true) : ndJ s i (j + 1) = (ndJ s i j).set (el (el s i).f j).toNat (el (ndJ s i j) i) := by
  rw [ndJ_step hi hj hr, Bool.eq_false_iff.2 h]; rfl
theorem ndJ_true (g : GoodS s) (hi : i < s.length) (hj : j < (el s i).f.length) (h : el (ndJ s i j) i = true) : ndJ s i (j + 1) = (ndJ s i j).set (el (el s i).f j).toNat true := by
  rw [ndJ_step hi hj (fun k hk => g.2 i hi _ (el_mem (by omega))), h, Bool.or_true]
theorem ndJ_false (g : GoodS s) (hi : i < s.length) (hj : j ≤ (el s i).f.length) (h : ¬ el (ndJ s i j) i = true) : ndJ s i j = ndK s (s.length - i) := by
  have hlt : ∀ x ∈ (el s i).f, x.toNat < (ndK s (s.length - 1 - i)).length := fun x hx => by rw [ndK_length]; have := f_lt g hi hx; omega
  have hb : el (ndK s (s.length - 1 - i)) i = false := by
    rw [← ndJ_here (j := j) hi (fun k hk => g.2 i hi _ (el_mem (by omega)))]
    exact Bool.eq_false_iff.2 h
  rw [ndJ, hb, mk1_no _ _ fun x hx => hlt x (List.mem_of_mem_take hx), ← ndJ_end hi, ndJ, hb, List.take_length, mk1_no _ _ hlt]
/-- places of the steps left, read for one step's reasons -/
def gF (f : List Int) (q : List Int) (j : Nat) : List Int := (f.take j).map fun x => el q x.toNat
theorem gF_zero (f q : List Int) : gF f q 0 = [] := rfl
theorem gF_step {f q : List Int} (hj : j < f.length) : gF f q (j + 1) = gF f q j ++ [el q (el f j).toNat] := by
  unfold gF
  rw [show f.take (j + 1) = f.take j ++ [el f j] by rw [List.take_succ_eq_append_getElem hj, el_eq hj], List.map_append]
  rfl
theorem gF_length {f q : List Int} (hj : j ≤ f.length) : (gF f q j).length = j := by
  unfold gF
  rw [List.length_map, List.length_take]; omega
theorem outK_yes {nd : List Bool} (h : el nd i = true) : outK s nd (i + 1) = ((outK s nd i).1.set i ((outK s nd i).2.length : Int), (outK s nd i).2 ++ [rowAt s (outK s nd i).1 i]) := by rw [outK, if_pos h]
theorem outK_no {nd : List Bool} (h : ¬ el nd i = true) : outK s nd (i + 1) = outK s nd i := by rw [outK, if_neg h]
theorem outK_le (s : List Stp) (nd : List Bool) : ∀ i, (outK s nd i).2.length ≤ i
  | 0 => Nat.le_refl _
  | i + 1 => by
    have := outK_le s nd i
    rw [outK]; split
    · rw [List.length_append]; show _ + 1 ≤ _; omega
    · omega
/-- a step that is left -/
theorem row_left (g : GoodS s) (hi : i < s.length) {nd : List Bool} (n : Int) : (⟨(el s i).p, (el s i).t, (el s i).r, (el s i).v, gF (el s i).f ((outK s nd i).1.set i n) (el s i).f.length⟩ : Stp) = rowAt s (outK s nd i).1 i := by
  unfold rowAt gF
  rw [List.take_length]
  congr 1
  refine List.map_congr_left fun x hx => ?_
  have := f_lt g hi hx
  rw [el_set' _ _ _ _ (by rw [outK_length]; exact hi), if_neg (by omega)]
theorem row_left' {nd : List Bool} : (⟨(el s i).p, (el s i).t, (el s i).r, (el s i).v, gF (el s i).f (outK s nd i).1 (el s i).f.length⟩ : Stp) = rowAt s (outK s nd i).1 i := by
  unfold rowAt gF
  rw [List.take_length]
end
end Go.PT
namespace Go.Eng
theorem Hp.feet_no {S : Nat → Prop} {w0 w : World} {L R : List Ch} {g : Nat} (H : Hp S w0 w (L ++ R)) (hS : ¬ S g) (hg : g < w0.heap.size) : ¬ feet L g := fun ⟨c, hc, hb⟩ => by
  rcases (H.own c (List.mem_append_left _ hc) g hb).2 with h | h
  · exact hS h
  · omega
end Go.Eng
namespace Go.PT
open Go.Eng Go.RowKit
section
variable {α : Type} (T : TypeId) (E : En α) (hs : List Hdr) (u : Nat → α)
/-- written over -/
def bA (j : Nat) : Ch := cQ T E (el hs j).1 (el hs j).2.1 (el hs j).2.2 (List.replicate (el hs j).2.1 (u j))
/-- on the way -/
def bG (xss : Nat → List α) (i k j : Nat) : Ch := if j < i then bA T E hs u j else if j = i then cQ T E (el hs i).1 (el hs i).2.1 (el hs i).2.2 (List.replicate k (u i) ++ (xss i).drop k) else cQ T E (el hs j).1 (el hs j).2.1 (el hs j).2.2 (xss j)
/-- written over, and grown -/
def bP (lhs : List Hdr) (j : Nat) : Ch := cP T E (el hs j).1 (el hs j).2.1 (el hs j).2.2 (List.replicate (el hs j).2.1 (u j)) (el lhs j).1 (el lhs j).2.1 (el lhs j).2.2 (List.replicate ((el hs j).2.1 + 20) (u j))
def bJ (lhs : List Hdr) (i j : Nat) : Ch := if j < i then bP T E hs u lhs j else bA T E hs u j
def bH (lhs : List Hdr) (i : Nat) (la : Option Addr) (lc k j : Nat) : Ch := if j < i then bP T E hs u lhs j else if j = i then cP T E (el hs i).1 (el hs i).2.1 (el hs i).2.2 (List.replicate (el hs i).2.1 (u i)) la ((el hs i).2.1 + k) lc (List.replicate ((el hs i).2.1 + k) (u i)) else bA T E hs u j
end
section
variable {α : Type} {T : TypeId} {E : En α} {hs lhs : List Hdr} {u : Nat → α} {xss : Nat → List α} {i k j n : Nat} {h : Array Obj} {S : Nat → Prop} {w0 w : World} {L : List Ch} {la : Option Addr} {lc : Nat}
theorem bG_zero : cQ T E (el hs j).1 (el hs j).2.1 (el hs j).2.2 (xss j) = bG T E hs u xss 0 0 j := by
  unfold bG
  rw [if_neg (Nat.not_lt_zero j)]
  split
  · rename_i e; subst e; rfl
  · rfl
theorem bG_at : bG T E hs u xss i k i = cQ T E (el hs i).1 (el hs i).2.1 (el hs i).2.2 (List.replicate k (u i) ++ (xss i).drop k) := by
  unfold bG
  rw [if_neg (Nat.lt_irrefl i), if_pos rfl]
theorem rep_set (xs : List α) (v : α) (hk : k < xs.length) : (List.replicate k v ++ xs.drop k).set k v = List.replicate (k + 1) v ++ xs.drop (k + 1) := by
  rw [List.set_append_right _ _ (by simp), List.length_replicate, Nat.sub_self, List.drop_eq_getElem_cons hk, List.set_cons_zero, List.replicate_succ', List.append_assoc]
  rfl
theorem bG_step (hk : k < (xss i).length) (j : Nat) : ins (bG T E hs u xss i k) i (cQ T E (el hs i).1 (el hs i).2.1 (el hs i).2.2 ((List.replicate k (u i) ++ (xss i).drop k).set k (u i))) j = bG T E hs u xss i (k + 1) j := by
  by_cases he : j = i
  · subst he
    rw [ins_here, bG_at, rep_set _ _ hk]
  · rw [ins_there he]
    unfold bG
    rw [if_neg he, if_neg he]
theorem bG_next (hk : (xss i).length = (el hs i).2.1) (j : Nat) : bG T E hs u xss i (el hs i).2.1 j = bG T E hs u xss (i + 1) 0 j := by
  unfold bG
  rcases Nat.lt_trichotomy j i with h | h | h
  · rw [if_pos h, if_pos (by omega)]
  · subst h
    rw [if_neg (Nat.lt_irrefl j), if_pos rfl, if_pos (by omega), ← hk, List.drop_length, List.append_nil]
    unfold bA
    rw [hk]
  · rw [if_neg (by omega), if_neg (by omega), if_neg (by omega)]
    split
    · rename_i e; subst e; rfl
    · rfl
theorem bG_end (hj : j < n) : bG T E hs u xss n 0 j = bJ T E hs u [] 0 j := by
  unfold bG bJ
  rw [if_pos hj, if_neg (Nat.not_lt_zero j)]
theorem bG_sr (hs' : (cF n (bG T E hs u xss i k)).says h) (hi : i < n) : Srm E h (el hs i).1 (el hs i).2.1 (el hs i).2.2 (List.replicate k (u i) ++ (xss i).drop k) := by
  have := hs'.1 i hi
  rw [bG_at] at this
  exact cQ.sr this
/-- a list is as long as its header says -/
theorem len_of (hs' : (cF n fun j => cQ T E (el hs j).1 (el hs j).2.1 (el hs j).2.2 (xss j)).says h) (hi : i < n) : (xss i).length = (el hs i).2.1 := (cQ.sr (hs'.1 i hi)).len
theorem bH_at : bH T E hs u lhs i la lc k i = cP T E (el hs i).1 (el hs i).2.1 (el hs i).2.2 (List.replicate (el hs i).2.1 (u i)) la ((el hs i).2.1 + k) lc (List.replicate ((el hs i).2.1 + k) (u i)) := by
  unfold bH
  rw [if_neg (Nat.lt_irrefl i), if_pos rfl]
theorem bH_step (la' : Option Addr) (lc' : Nat) (j : Nat) : ins (bH T E hs u lhs i la lc k) i (cP T E (el hs i).1 (el hs i).2.1 (el hs i).2.2 (List.replicate (el hs i).2.1 (u i)) la' ((el hs i).2.1 + k + 1) lc' (List.replicate ((el hs i).2.1 + k) (u i) ++ [u i])) j = bH T E hs u lhs i la' lc' (k + 1) j := by
  by_cases he : j = i
  · subst he
    rw [ins_here, bH_at, ← List.replicate_succ', ← Nat.add_assoc]
  · rw [ins_there he]
    unfold bH
    rw [if_neg he, if_neg he]
theorem bH_start (H : Hp S w0 w L) (q : Nat) (hq : L[q]? = some (cF n (bJ T E hs u lhs i))) : Hp S w0 w (L.set q (cF n (bH T E hs u lhs i (el hs i).1 (el hs i).2.2 0))) := by
  refine H.fconv q hq (fun j hj hs' => ?_) fun j hj b hb => ?_
  · unfold bH
    unfold bJ at hs'
    by_cases h1 : j < i
    · rw [if_pos h1] at hs' ⊢; exact hs'
    · rw [if_neg h1] at hs' ⊢
      by_cases h2 : j = i
      · subst h2
        rw [if_pos rfl]
        exact cP.start hs'
      · rw [if_neg h2]; exact hs'
  · unfold bH at hb
    unfold bJ
    by_cases h1 : j < i
    · rw [if_pos h1] at hb ⊢; exact hb
    · rw [if_neg h1] at hb ⊢
      by_cases h2 : j = i
      · subst h2
        rw [if_pos rfl] at hb
        rcases hb with hb | hb <;> exact hb
      · rw [if_neg h2] at hb; exact hb
theorem bH_next (hl : lhs.length = i) (hk : k = 20) (j : Nat) : bH T E hs u lhs i la lc k j = bJ T E hs u (lhs ++ [(la, (el hs i).2.1 + k, lc)]) (i + 1) j := by
  subst hk
  have e1 : ∀ j, j < i → el (lhs ++ [(la, (el hs i).2.1 + 20, lc)]) j = el lhs j := fun j hj => by rw [el_app1, if_neg (by omega)]
  unfold bH bJ
  rcases Nat.lt_trichotomy j i with h | h | h
  · rw [if_pos h, if_pos (by omega)]
    unfold bP
    rw [e1 j h]
  · subst h
    rw [if_neg (Nat.lt_irrefl j), if_pos rfl, if_pos (by omega)]
    unfold bP
    rw [el_app1, if_pos hl.symm]
  · rw [if_neg (by omega), if_neg (by omega), if_neg (by omega)]
theorem bJ_P (hj : j < i) : bJ T E hs u lhs i j = bP T E hs u lhs j := if_pos hj
theorem bJ_sr (hs' : (cF n (bJ T E hs u lhs n)).says h) (hi : i < n) : Srm E h (el lhs i).1 (el lhs i).2.1 (el lhs i).2.2 (List.replicate ((el hs i).2.1 + 20) (u i)) := by
  have := hs'.1 i hi
  rw [bJ_P hi] at this
  exact cP.sr this
theorem bJ_sr0 (hs' : (cF n (bJ T E hs u lhs n)).says h) (hi : i < n) : Srm E h (el hs i).1 (el hs i).2.1 (el hs i).2.2 (List.replicate (el hs i).2.1 (u i)) := by
  have := hs'.1 i hi
  rw [bJ_P hi] at this
  exact cP.sr0 this
theorem Srm.rep [Inhabited α] {a : Option Addr} {m c N : Nat} {v : α} (hs' : Srm E h a m c (List.replicate N v)) (hk : k < m) : Cells h (ab a) (ao a + k * E.k) (E.enc v) := by
  have h1 := hs'.len
  have h2 := hs'.cell hk
  rw [List.length_replicate] at h1
  have e : el (List.replicate N v) k = v := by
    unfold el
    rw [List.getD_eq_getElem?_getD, List.getElem?_replicate, if_pos (by omega)]
    rfl
  rwa [e] at h2
end
end Go.PT
