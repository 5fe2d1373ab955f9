/- Sets of things: what is in one, in both, in the first alone, told by walking over both side by side; its laws. -/
import Derived.Test.YtgfolockecjlnaaRows1
namespace Go.Eng
open Go.RowKit
theorem x_mkFunc {P : Program} {n : Nat} {σ : Nat → Value} {w : World} {ty : TypeId} {f : Fn} {a b : Array Operand} {v : Value} (hrun : ∀ w, (Instr.makeFunc f (a.map (ev n σ)) (b.map (ev n σ))).run P w = .ok v w) : Ex P (ev n σ) w (.makeFunc f a b) ty v := by
  intro _ _ _ _; simp [execOp, hrun]
end Go.Eng
namespace Go.Proofs.Ytgfolockecjlnaa
open Go.RowKit Go.Eng Go.OrdPure
theorem Src.tail {h : Array Obj} {a : Option Addr} {c : Nat} {X : List (Int × Int)} (hs : Src h (.slice a X.length c) X.length 2 (flat enT X)) (h0 : 0 < X.length) : Src h (.slice (if c = 1 then a else a.map (·.add (1 * 2))) (X.length - 1) (c - 1)) (X.drop 1).length 2 (flat enT (X.drop 1)) := by
  obtain ⟨x, X, rfl⟩ : ∃ x X', X = x :: X' := by cases X with | nil => simp at h0 | cons x X => exact ⟨x, X, rfl⟩
  obtain ⟨hl, a', c', he, hm, hc, hC⟩ := hs
  injection he with e1 e2 e3
  subst e1; subst e3
  refine ⟨by rw [flat_length enT_len], (if c = 1 then a else a.map (·.add (1 * 2))), c - 1, rfl, by simp at hm ⊢; omega, by omega, ?_⟩
  rcases Nat.eq_zero_or_pos X.length with h1 | h1
  · exact .inl (by simpa using h1)
  · rcases hC with hC | ⟨b, o, rfl, hC⟩
    · simp at hC
    · have hc1 : ¬ c = 1 := by simp at hm; omega
      rw [if_neg hc1]
      refine .inr ⟨b, o + 2, by simp [Addr.add], ?_⟩
      exact hC.sub 2 _ fun j hj => by
        have e : flat enT (x :: X) = .int .i64 x.1 :: .int .i64 x.2 :: flat enT X := rfl
        have e2 : flat enT ((x :: X).drop 1) = flat enT X := rfl
        rw [e, show 2 + j = j + 1 + 1 by omega, List.getElem?_cons_succ, List.getElem?_cons_succ]
        simp only [e2] at hj ⊢
        rw [List.getElem?_eq_getElem hj]
def wk (l r bo : Bool) : List (Int × Int) → List (Int × Int) → List (Int × Int)
  | [], [] => []
  | a :: A', [] => (if l then [a] else []) ++ wk l r bo A' []
  | [], b :: B' => (if r then [b] else []) ++ wk l r bo [] B'
  | a :: A', b :: B' => if a.1 < b.1 then (if l then [a] else []) ++ wk l r bo A' (b :: B') else if b.1 < a.1 then (if r then [b] else []) ++ wk l r bo (a :: A') B' else (if bo then [a] else []) ++ wk l r bo A' B'
termination_by a b => a.length + b.length
def SR (A : List (Int × Int)) : Prop := A.Pairwise fun a b => a.1 < b.1
def H (L : List (Int × Int)) (z : Int × Int) : Prop := ∃ y ∈ L, y.1 = z.1
theorem wk_mem {l r bo : Bool} : ∀ (A B : List (Int × Int)), SR A → SR B → ∀ z, z ∈ wk l r bo A B ↔ (l = true ∧ z ∈ A ∧ ¬ H B z) ∨ (r = true ∧ z ∈ B ∧ ¬ H A z) ∨ (bo = true ∧ z ∈ A ∧ H B z)
  | [], [], _, _, z => by simp [wk]
  | a :: A', [], hA, hB, z => by
    have ih := wk_mem (l := l) (r := r) (bo := bo) A' [] (List.pairwise_cons.1 hA).2 hB z
    rw [wk, List.mem_append, ih]
    simp only [H]
    grind
  | [], b :: B', hA, hB, z => by
    have ih := wk_mem (l := l) (r := r) (bo := bo) [] B' hA (List.pairwise_cons.1 hB).2 z
    rw [wk, List.mem_append, ih]
    simp only [H]
    grind
  | a :: A', b :: B', hA, hB, z => by
    obtain ⟨a1, a2⟩ := List.pairwise_cons.1 hA
    obtain ⟨b1, b2⟩ := List.pairwise_cons.1 hB
    rw [wk]
    split
    · rename_i hlt
      have ih := wk_mem (l := l) (r := r) (bo := bo) A' (b :: B') a2 hB z
      have q : ∀ y, y ∈ b :: B' → a.1 < y.1 := by grind
      rw [List.mem_append, ih]
      by_cases hz : z.1 = a.1
      · have h1 : ¬ H (b :: B') z := by rintro ⟨y, hy, e⟩; have := q y hy; omega
        have h2 : z ∉ b :: B' := fun h => by have := q z h; omega
        have h3 : z ∉ A' := fun h => by have := a1 z h; omega
        cases l <;> simp [h1, h2, h3]
      · have h1 : H (a :: A') z ↔ H A' z := by simp only [H]; grind
        have h2 : z ∈ a :: A' ↔ z ∈ A' := by grind
        rw [h1, h2]
        cases l <;> simp <;> grind
    · split
      · have ih := wk_mem (l := l) (r := r) (bo := bo) (a :: A') B' hA b2 z
        rw [List.mem_append, ih]
        simp only [H]
        grind
      · rename_i h1' h2'
        have ih := wk_mem (l := l) (r := r) (bo := bo) A' B' a2 b2 z
        have e : a.1 = b.1 := by omega
        rw [List.mem_append, ih]
        by_cases hz : z.1 = a.1
        · have h1 : ¬ H B' z := by rintro ⟨y, hy, e⟩; have := b1 y hy; omega
          have h2 : ¬ H A' z := by rintro ⟨y, hy, e⟩; have := a1 y hy; omega
          have h3 : z ∉ A' := fun h => h2 ⟨z, h, rfl⟩
          have h4 : z ∉ B' := fun h => h1 ⟨z, h, rfl⟩
          have h5 : H (b :: B') z := ⟨b, by simp, by omega⟩
          have h6 : H (a :: A') z := ⟨a, by simp, by omega⟩
          cases bo <;> simp [h1, h2, h3, h4, h5, h6]
        · have h1 : H (a :: A') z ↔ H A' z := by simp only [H]; grind
          have h2 : z ∈ a :: A' ↔ z ∈ A' := by grind
          have h3 : H (b :: B') z ↔ H B' z := by simp only [H]; grind
          have h4 : z ∈ b :: B' ↔ z ∈ B' := by grind
          rw [h1, h2, h3, h4]
          cases bo <;> simp <;> grind
termination_by A B => A.length + B.length
theorem wk_SR {l r bo : Bool} : ∀ (A B : List (Int × Int)), SR A → SR B → SR (wk l r bo A B)
  | [], [], _, _ => by rw [wk]; exact List.Pairwise.nil
  | a :: A', [], hA, hB => by
    obtain ⟨a1, a2⟩ := List.pairwise_cons.1 hA
    have ih := wk_SR (l := l) (r := r) (bo := bo) A' [] a2 hB
    have hm := wk_mem (l := l) (r := r) (bo := bo) A' [] a2 hB
    rw [wk]
    cases l
    · exact ih
    · exact List.pairwise_cons.2 ⟨fun y hy => by have := (hm y).1 hy; grind, ih⟩
  | [], b :: B', hA, hB => by
    obtain ⟨b1, b2⟩ := List.pairwise_cons.1 hB
    have ih := wk_SR (l := l) (r := r) (bo := bo) [] B' hA b2
    have hm := wk_mem (l := l) (r := r) (bo := bo) [] B' hA b2
    rw [wk]
    cases r
    · exact ih
    · exact List.pairwise_cons.2 ⟨fun y hy => by have := (hm y).1 hy; grind, ih⟩
  | a :: A', b :: B', hA, hB => by
    obtain ⟨a1, a2⟩ := List.pairwise_cons.1 hA
    obtain ⟨b1, b2⟩ := List.pairwise_cons.1 hB
    rw [wk]
    split
    · have ih := wk_SR (l := l) (r := r) (bo := bo) A' (b :: B') a2 hB
      have hm := wk_mem (l := l) (r := r) (bo := bo) A' (b :: B') a2 hB
      have q : ∀ y, y ∈ b :: B' → a.1 < y.1 := by grind
      cases l
      · exact ih
      · exact List.pairwise_cons.2 ⟨fun y hy => by have := (hm y).1 hy; grind, ih⟩
    · split
      · have ih := wk_SR (l := l) (r := r) (bo := bo) (a :: A') B' hA b2
        have hm := wk_mem (l := l) (r := r) (bo := bo) (a :: A') B' hA b2
        have q : ∀ y, y ∈ a :: A' → b.1 < y.1 := by grind
        cases r
        · exact ih
        · exact List.pairwise_cons.2 ⟨fun y hy => by have := (hm y).1 hy; grind, ih⟩
      · have ih := wk_SR (l := l) (r := r) (bo := bo) A' B' a2 b2
        have hm := wk_mem (l := l) (r := r) (bo := bo) A' B' a2 b2
        have q : ∀ y, y ∈ B' → a.1 < y.1 := by grind
        cases bo
        · exact ih
        · exact List.pairwise_cons.2 ⟨fun y hy => by have := (hm y).1 hy; grind, ih⟩
termination_by A B => A.length + B.length
theorem SR.ext : ∀ {P Q : List (Int × Int)}, SR P → SR Q → (∀ z, z ∈ P ↔ z ∈ Q) → P = Q
  | [], [], _, _, _ => rfl
  | [], q :: Q, _, _, h => absurd ((h q).2 (by simp)) (by simp)
  | p :: P, [], _, _, h => absurd ((h p).1 (by simp)) (by simp)
  | p :: P, q :: Q, hP, hQ, h => by
    obtain ⟨p1, p2⟩ := List.pairwise_cons.1 hP
    obtain ⟨q1, q2⟩ := List.pairwise_cons.1 hQ
    have e : p = q := by
      have h1 := (h p).1 (by simp)
      have h2 := (h q).2 (by simp)
      rw [List.mem_cons] at h1 h2
      rcases h1 with h1 | h1
      · exact h1
      · rcases h2 with h2 | h2
        · exact h2.symm
        · have := q1 p h1
          have := p1 q h2
          omega
    subst e
    congr 1
    refine SR.ext p2 q2 fun z => ⟨fun hz => ?_, fun hz => ?_⟩
    · rcases List.mem_cons.1 ((h z).1 (List.mem_cons_of_mem _ hz)) with e | e
      · subst e; have := p1 _ hz; omega
      · exact e
    · rcases List.mem_cons.1 ((h z).2 (List.mem_cons_of_mem _ hz)) with e | e
      · subst e; have := q1 _ hz; omega
      · exact e
theorem wk_len : ∀ (A B : List (Int × Int)), (wk true true true A B).length + (wk false false true A B).length = A.length + B.length
  | [], [] => by simp [wk]
  | a :: A', [] => by have := wk_len A' []; simp only [wk] at *; simp at *; omega
  | [], b :: B' => by have := wk_len [] B'; simp only [wk] at *; simp at *; omega
  | a :: A', b :: B' => by
    have h1 := wk_len A' (b :: B')
    have h2 := wk_len (a :: A') B'
    have h3 := wk_len A' B'
    rw [wk, wk]
    split
    · simp at *; omega
    · split
      · simp at *; omega
      · simp at *; omega
termination_by A B => A.length + B.length
theorem ins_perm {c : Int × Int → Int × Int → Int} (x : Int × Int) : ∀ ys : List (Int × Int), (ins c x ys).Perm (x :: ys)
  | [] => List.Perm.refl _
  | y :: ys => by
    simp only [ins]
    split
    · exact List.Perm.refl _
    · exact ((ins_perm x ys).cons y).trans (List.Perm.swap _ _ _)
theorem srt_perm {c : Int × Int → Int × Int → Int} (xs : List (Int × Int)) : (srt c xs).Perm xs := by
  induction xs using Go.OrdPure.rev_ind with
  | h0 => exact List.Perm.refl _
  | h1 xs x ih =>
    rw [srt_snoc]
    exact ((ins_perm x _).trans (ih.cons x)).trans (List.perm_append_comm (l₁ := [x]) (l₂ := xs))
theorem srt_SR {L : List (Int × Int)} (h : L.Pairwise fun a b => a.1 ≠ b.1) : SR (srt byc L) := by
  have h1 : (srt byc L).Pairwise fun a b => a.1 ≠ b.1 := ((srt_perm L).symm.pairwise_iff (fun h => Ne.symm h)).1 h
  exact (h1.and (srt_rise byc_law L)).imp fun h => by have := byc_le.1 h.2; have := h.1; omega
theorem hasB_iff {L : List (Int × Int)} {z : Int × Int} : hasB L z = true ↔ H L z := by
  rw [hasB, List.any_eq_true]
  simp [H]
def minL (A B : List (Int × Int)) : List (Int × Int) := A.filter fun x => !hasB B x
def meetL (A B : List (Int × Int)) : List (Int × Int) := A.filter fun x => hasB B x
theorem wk_minus {A B : List (Int × Int)} (hA : SR A) (hB : SR B) : wk true false false A B = minL A B :=
  SR.ext (wk_SR A B hA hB) (hA.filter _) fun z => by rw [wk_mem A B hA hB, minL, List.mem_filter]; have := hasB_iff (L := B) (z := z); grind
theorem wk_meet {A B : List (Int × Int)} (hA : SR A) (hB : SR B) : wk false false true A B = meetL A B :=
  SR.ext (wk_SR A B hA hB) (hA.filter _) fun z => by rw [wk_mem A B hA hB, meetL, List.mem_filter]; have := hasB_iff (L := B) (z := z); grind
theorem SR.ne {A : List (Int × Int)} (h : SR A) : A.Pairwise fun a b => a.1 ≠ b.1 := h.imp fun h => by omega
theorem wk_union {A B : List (Int × Int)} (hA : SR A) (hB : SR B) : wk true true true A B = srt byc (A ++ minL B A) := by
  have hd : (A ++ minL B A).Pairwise fun a b => a.1 ≠ b.1 := by
    rw [List.pairwise_append]
    refine ⟨hA.ne, hB.ne.filter _, fun a ha b hb => ?_⟩
    rw [minL, List.mem_filter] at hb
    intro e
    have : hasB A b = true := hasB_iff.2 ⟨a, ha, e⟩
    rw [this] at hb
    simp at hb
  refine SR.ext (wk_SR A B hA hB) (srt_SR hd) fun z => ?_
  rw [wk_mem A B hA hB, srt_mem, List.mem_append, minL, List.mem_filter]
  have := hasB_iff (L := A) (z := z)
  by_cases h : H A z <;> by_cases h2 : H B z <;> simp [h, h2, this] <;> grind [H]
theorem wk_back {A B : List (Int × Int)} (hA : SR A) (hB : SR B) : wk true true true (minL A B) (meetL A B) = A := by
  have h1 : SR (minL A B) := hA.filter _
  have h2 : SR (meetL A B) := hA.filter _
  refine SR.ext (wk_SR _ _ h1 h2) hA fun z => ?_
  rw [wk_mem _ _ h1 h2]
  simp only [minL, meetL, List.mem_filter, H]
  have hh : ∀ a : Int × Int, a.1 = z.1 → hasB B a = hasB B z := fun a e => by simp [hasB, e]
  have e := hasB_iff (L := B) (z := z)
  cases hz : hasB B z <;> grind
theorem wk_self {A : List (Int × Int)} (hA : SR A) : wk true false false A A = [] := by
  rw [wk_minus hA hA, minL, List.filter_eq_nil_iff]
  intro a ha
  have : hasB A a = true := hasB_iff.2 ⟨a, ha, rfl⟩
  simp [this]
theorem wk_same {A : List (Int × Int)} (hA : SR A) : wk false false true A A = A := by
  rw [wk_meet hA hA, meetL, List.filter_eq_self]
  intro a ha
  exact hasB_iff.2 ⟨a, ha, rfl⟩
theorem ddL_SR : ∀ (xs : List (Int × Int)), Rise byc xs → SR (ddL byc xs) ∧ ∀ y ∈ ddL byc xs, y ∈ xs := by
  intro xs
  induction xs using Go.OrdPure.rev_ind with
  | h0 => exact fun _ => ⟨List.Pairwise.nil, by simp [ddL]⟩
  | h1 xs x ih =>
    intro h
    obtain ⟨r1, _, r3⟩ := List.pairwise_append.1 h
    obtain ⟨h1, h2⟩ := ih r1
    rw [ddL_snoc, ddS]
    split
    · rename_i hc
      refine ⟨List.pairwise_append.2 ⟨h1, List.pairwise_singleton _ _, fun a ha b hb => ?_⟩, fun y hy => ?_⟩
      · rw [List.mem_singleton] at hb
        subst hb
        have hle := byc_le.1 (r3 a (h2 a ha) b (by simp))
        rcases hc with hc | hc
        · rw [List.eq_nil_of_length_eq_zero hc] at ha; simp at ha
        · rw [byc_zero] at hc
          obtain ⟨i, hi, rfl⟩ := List.getElem_of_mem ha
          by_cases e : i = (ddL byc xs).length - 1
          · subst e; rw [el_eq hi] at hc; omega
          · have h3 := List.pairwise_iff_getElem.1 h1 i ((ddL byc xs).length - 1) hi (by omega) (by omega)
            have h4 := byc_le.1 (r3 _ (h2 _ (List.getElem_mem (show (ddL byc xs).length - 1 < (ddL byc xs).length by omega))) b (by simp))
            rw [el_eq (by omega)] at hc
            omega
      · rcases List.mem_append.1 hy with h | h
        · exact List.mem_append_left _ (h2 y h)
        · exact List.mem_append_right _ h
    · exact ⟨h1, fun y hy => List.mem_append_left _ (h2 y hy)⟩
theorem wk_left {l r bo : Bool} {X Y : List (Int × Int)} (hx : 0 < X.length) (h : Y.length = 0 ∨ (el X 0).1 < (el Y 0).1) : wk l r bo X Y = (if l then [el X 0] else []) ++ wk l r bo (X.drop 1) Y := by
  match X, Y, hx, h with
  | a :: A', [], _, _ => rw [wk]; rfl
  | a :: A', b :: B', _, h =>
    have h' : a.1 < b.1 := h.resolve_left (by simp)
    rw [wk, if_pos h']; rfl
theorem wk_right {l r bo : Bool} {X Y : List (Int × Int)} (hy : 0 < Y.length) (h : X.length = 0 ∨ (el Y 0).1 < (el X 0).1) : wk l r bo X Y = (if r then [el Y 0] else []) ++ wk l r bo X (Y.drop 1) := by
  match X, Y, hy, h with
  | [], b :: B', _, _ => rw [wk]; rfl
  | a :: A', b :: B', _, h =>
    have h := h.resolve_left (by simp)
    have h' : b.1 < a.1 := h
    rw [wk, if_neg (by omega), if_pos h']; rfl
theorem wk_both {l r bo : Bool} {X Y : List (Int × Int)} (hx : 0 < X.length) (hy : 0 < Y.length) (h : (el X 0).1 = (el Y 0).1) : wk l r bo X Y = (if bo then [el X 0] else []) ++ wk l r bo (X.drop 1) (Y.drop 1) := by
  match X, Y, hx, hy, h with
  | a :: A', b :: B', _, _, h =>
    have h' : a.1 = b.1 := h
    rw [wk, if_neg (by omega), if_neg (by omega)]; rfl
end Go.Proofs.Ytgfolockecjlnaa
