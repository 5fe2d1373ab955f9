/- Each level above 0 has its reason. Plain. -/
import Derived.Test.YtknfjgbipfpnjaaG17
namespace Go.Proofs.Ytknfjgbipfpnjaa
open Go.RowKit Go.Eng Go.OrdPure Go.Knot
theorem filter_lt {α : Type} {p q : α → Bool} : ∀ {xs : List α}, (∀ x ∈ xs, p x = true → q x = true) → (∃ x ∈ xs, q x = true ∧ ¬ p x = true) → (xs.filter p).length + 1 ≤ (xs.filter q).length
  | [], _, h => by obtain ⟨x, hx, _⟩ := h; simp at hx
  | y :: xs, h, hx => by
    have hle : (xs.filter p).length ≤ (xs.filter q).length := by
      clear hx
      have h' : ∀ x ∈ xs, p x = true → q x = true := fun x hx => h x (List.mem_cons_of_mem _ hx)
      clear h
      induction xs with
      | nil => simp
      | cons z xs ih =>
        have := ih fun x hx => h' x (List.mem_cons_of_mem _ hx)
        have hz := h' z (by simp)
        by_cases hp : p z = true
        · rw [List.filter_cons_of_pos hp, List.filter_cons_of_pos (hz hp)]; simpa using this
        · rw [List.filter_cons_of_neg hp]
          by_cases hq : q z = true
          · rw [List.filter_cons_of_pos hq]; simp; omega
          · rw [List.filter_cons_of_neg hq]; exact this
    obtain ⟨x, hxm, hq, hp⟩ := hx
    rcases List.mem_cons.1 hxm with rfl | hxm
    · rw [List.filter_cons_of_neg hp, List.filter_cons_of_pos hq]; simpa using hle
    · have ih := filter_lt (p := p) (q := q) (xs := xs) (fun x hx => h x (List.mem_cons_of_mem _ hx)) ⟨x, hxm, hq, hp⟩
      have hy := h y (by simp)
      by_cases hpy : p y = true
      · rw [List.filter_cons_of_pos hpy, List.filter_cons_of_pos (hy hpy)]; simpa using ih
      · rw [List.filter_cons_of_neg hpy]
        by_cases hqy : q y = true
        · rw [List.filter_cons_of_pos hqy]; simp; omega
        · rw [List.filter_cons_of_neg hqy]; exact ih
section
variable {ns : List ByteArray} {es : List Edge} {lev : ByteArray → Nat}
theorem IsLev.bnd (h : IsLev ns es lev) (hends : ∀ e ∈ es, e.1 ∈ ns ∧ e.2.1 ∈ ns) {s : ByteArray} (hs : s ∈ ns) : lev s ≤ ns.length := by
  refine Nat.le_trans (h.least (fun s => (ns.filter fun t => decide (lev t < lev s)).length) (fun e he => ?_) s hs) (List.length_filter_le _ _)
  have hr := h.rule e he
  by_cases hn : e.2.2 = true
  · have e1 : ng e = 1 := by unfold ng; rw [if_pos hn]
    rw [e1] at hr ⊢
    refine filter_lt (fun x _ hx => ?_) ⟨e.2.1, (hends e he).2, ?_, ?_⟩
    · simp only [decide_eq_true_eq] at hx ⊢; omega
    · simp only [decide_eq_true_eq]; omega
    · simp
  · have e1 : ng e = 0 := by unfold ng; rw [if_neg hn]
    rw [e1] at hr ⊢
    rw [Nat.add_zero]
    rcases Nat.lt_or_ge (lev e.2.1) (lev e.1) with q | q
    · exact Nat.le_of_succ_le (filter_lt (fun x _ hx => by simp only [decide_eq_true_eq] at hx ⊢; omega) ⟨e.2.1, (hends e he).2, by simp only [decide_eq_true_eq]; exact q, by simp⟩)
    · have : lev e.2.1 = lev e.1 := by omega
      show (ns.filter fun t => decide (lev t < lev e.2.1)).length ≤ _
      rw [this]; exact Nat.le_refl _
theorem ranksOf_len (ns : List ByteArray) (lev : ByteArray → Nat) : (ranksOf ns lev).length = ns.length := by simp [ranksOf]
theorem ranksOf_el {i : Nat} (h : i < ns.length) : el (ranksOf ns lev) i = (el ns i, ((lev (el ns i) : Nat) : Int)) := by
  rw [el_eq (by rw [ranksOf_len]; exact h), el_eq h]; simp [ranksOf]
theorem lvl_ranks {z : ByteArray} (h : z ∈ ns) : lvl (ranksOf ns lev) z = ((lev z : Nat) : Int) := by
  have hl := ixS_lt h
  have e1 := ranksOf_el (lev := lev) hl
  rw [ixS_el h] at e1
  rw [lvl_at (i := ixS ns z) (by rw [ranksOf_len]; exact hl) (by rw [e1]) (fun j hj => ?_), e1]
  rw [ranksOf_el (by omega)]
  intro hb
  have : el ns j = z := bytes_ext hb
  have h2 : ixS ns z ≤ j := by
    unfold ixS
    rcases Nat.lt_or_ge j (ns.findIdx fun x => decide (x = z)) with q | q
    · have := List.not_of_lt_findIdx q
      simp only [decide_eq_false_iff_not] at this
      exact absurd (by rw [← el_eq (by omega)]; assumption) this
    · exact q
  omega
/-- the edges within a level -/
def flatL (es : List Edge) (RK : List Rank) (L : Int) : List Edge := es.filter fun e => decide (lvl RK e.1 = L ∧ lvl RK e.2.1 = L)
theorem flatL_yes {RK : List Rank} {L : Int} {k : Nat} (hk : k < es.length) (h1 : lvl RK (el es k).1 = L) (h2 : lvl RK (el es k).2.1 = L) : flatL (es.take (k + 1)) RK L = flatL (es.take k) RK L ++ [el es k] := by
  unfold flatL; rw [take_succ_el hk, List.filter_append]; simp [h1, h2]
theorem flatL_no {RK : List Rank} {L : Int} {k : Nat} (hk : k < es.length) (h : ¬ (lvl RK (el es k).1 = L ∧ lvl RK (el es k).2.1 = L)) : flatL (es.take (k + 1)) RK L = flatL (es.take k) RK L := by
  unfold flatL; rw [take_succ_el hk, List.filter_append]
  have : [el es k].filter (fun e => decide (lvl RK e.1 = L ∧ lvl RK e.2.1 = L)) = [] := by simp [h]
  rw [this, List.append_nil]
theorem flatL_len (es : List Edge) (RK : List Rank) (L : Int) : (flatL es RK L).length ≤ es.length := List.length_filter_le _ _
def Reas (es : List Edge) (RK : List Rank) (R : List ByteArray) (L : Int) (j : Nat) : Prop := (el es j).2.2 = true ∧ (el es j).1 ∈ R ∧ lvl RK (el es j).2.1 = L - 1
open Classical in
theorem reason (h : IsLev ns es lev) (hends : ∀ k, k < es.length → (el es k).1 ∈ ns ∧ (el es k).2.1 ∈ ns) {i : Nat} (hi : i < ns.length) {R : List ByteArray} (hR : IsR (flatL es (ranksOf ns lev) (el (ranksOf ns lev) i).2) [(el (ranksOf ns lev) i).1] R) :
    (el (ranksOf ns lev) i).2 = 0 ∨ ∃ j, j < es.length ∧ Reas es (ranksOf ns lev) R (el (ranksOf ns lev) i).2 j := by
  rw [ranksOf_el hi] at hR ⊢
  dsimp only at hR ⊢
  obtain ⟨s, hs⟩ : ∃ s, s = el ns i := ⟨_, rfl⟩
  rw [← hs] at hR ⊢
  have hsn : s ∈ ns := hs ▸ el_memS hi
  refine Classical.byContradiction fun hno => ?_
  have h0 : ¬ lev s = 0 := fun e => hno (.inl (by rw [e]; rfl))
  have hnr : ∀ j, j < es.length → (el es j).2.2 = true → (el es j).1 ∈ R → lev (el es j).2.1 + 1 ≠ lev s := fun j hj hn hm he => hno (.inr ⟨j, hj, hn, hm, by rw [lvl_ranks (hends j hj).2]; omega⟩)
  have hlR : ∀ z ∈ R, z ∈ ns ∧ lev z = lev s := by
    intro z hz
    have hrz := (hR.2 z).1 hz
    induction hrz with
    | here h1 => rw [List.mem_singleton] at h1; subst h1; exact ⟨hsn, rfl⟩
    | @step e he _ ih =>
      obtain ⟨h1, h2⟩ := List.mem_filter.1 he
      obtain ⟨k, hk, rfl⟩ := List.getElem_of_mem h1
      rw [← el_eq hk] at h2 ⊢
      simp only [decide_eq_true_eq] at h2
      have h3 := h2.2
      rw [lvl_ranks (hends k hk).2] at h3
      exact ⟨(hends k hk).2, by omega⟩
  have hf : Rule es fun z => if z ∈ R then lev s - 1 else lev z := by
    intro e he
    obtain ⟨k, hk, rfl⟩ := List.getElem_of_mem he
    rw [← el_eq hk]
    have hr := h.rule _ (el_memE hk)
    dsimp only
    by_cases hu : (el es k).1 ∈ R
    · rw [if_pos hu]
      have hlu := hlR _ hu
      by_cases ht : (el es k).2.1 ∈ R
      · rw [if_pos ht]
        have hlt := hlR _ ht
        have : ng (el es k) = 0 := by have := hlu.2; have := hlt.2; omega
        omega
      · rw [if_neg ht]
        by_cases hle : lev (el es k).2.1 = lev s
        · refine absurd ((hR.2 _).2 (.step (e := el es k) (List.mem_filter.2 ⟨el_memE hk, ?_⟩) ((hR.2 _).1 hu))) ht
          simp only [decide_eq_true_eq]
          rw [lvl_ranks (hends k hk).1, lvl_ranks (hends k hk).2, hlu.2, hle]
          exact ⟨rfl, rfl⟩
        · have h1 := hlu.2
          by_cases hn : (el es k).2.2 = true
          · have h2 := hnr k hk hn hu
            have : ng (el es k) = 1 := by unfold ng; rw [if_pos hn]
            omega
          · have : ng (el es k) = 0 := by unfold ng; rw [if_neg hn]
            omega
    · rw [if_neg hu]
      by_cases ht : (el es k).2.1 ∈ R
      · rw [if_pos ht]; have := (hlR _ ht).2; omega
      · rw [if_neg ht]; exact hr
  have hl := h.least _ hf s hsn
  rw [if_pos ((hR.2 s).2 (.here (by simp)))] at hl
  omega
theorem some_step {A : Prop} {Q : Nat → Prop} {rs rs' : Bool} {k : Nat} (h : rs = true ↔ A ∨ ∃ j, j < k ∧ Q j) (h' : rs' = true ↔ rs = true ∨ Q k) : rs' = true ↔ A ∨ ∃ j, j < k + 1 ∧ Q j := by
  rw [h', h]
  constructor
  · rintro ((h | ⟨j, hj, hq⟩) | hq)
    · exact .inl h
    · exact .inr ⟨j, by omega, hq⟩
    · exact .inr ⟨k, by omega, hq⟩
  · rintro (h | ⟨j, hj, hq⟩)
    · exact .inl (.inl h)
    · by_cases e : j = k
      · subst e; exact .inr hq
      · exact .inl (.inr ⟨j, by omega, hq⟩)
theorem fit_sub {es fl : List Edge} (h : FitE es) (hs : ∀ e ∈ fl, e ∈ es) : FitE fl := fun e he => h e (hs e he)
end
end Go.Proofs.Ytknfjgbipfpnjaa
