/- The groups of rows that rise by their keys. Seat-free. -/
import Derived.Test.YtegpcbckiehleaaDoorSGr
namespace Go.Eng
open Go.RowKit Go.OrdPure Go.Flt
abbrev Acc := List (Row × List Row)
def gpre (acc : Acc) (x : Row × Row) : Acc := if acc.length = 0 ∨ ¬ (el acc (acc.length - 1)).1.2 = x.1.2 then acc ++ [(x.1, [])] else acc
def gpush (a : Acc) (t : Row) : Acc := a.set (a.length - 1) ((el a (a.length - 1)).1, (el a (a.length - 1)).2 ++ [t])
def gst (acc : Acc) (x : Row × Row) : Acc := gpush (gpre acc x) x.2
def gfold (S : List (Row × Row)) : Acc := S.foldl gst []
def toG (g : Row × List Row) : Grp := ⟨g.1.1.1, g.1.1.2, g.1.2, (g.2.length : Nat), 0, 0, 0, 0, 0, 0⟩
theorem gfold_snoc (S : List (Row × Row)) (x : Row × Row) : gfold (S ++ [x]) = gst (gfold S) x := by simp [gfold]
theorem gpre_pos (acc : Acc) (x : Row × Row) : 0 < (gpre acc x).length := by
  unfold gpre
  split
  · simp
  · omega
theorem gpre_len (acc : Acc) (x : Row × Row) : (gpre acc x).length ≤ acc.length + 1 := by unfold gpre; split <;> simp
theorem gpush_len (a : Acc) (t : Row) : (gpush a t).length = a.length := by unfold gpush; exact List.length_set
theorem gfold_len (S : List (Row × Row)) : (gfold S).length ≤ S.length := by
  induction S using Go.OrdPure.rev_ind with
  | h0 => exact Nat.le_refl _
  | h1 S x ih => rw [gfold_snoc, gst, gpush_len, List.length_append, List.length_singleton]; have := gpre_len (gfold S) x; omega
theorem el_mem' {α : Type} [Inhabited α] {xs : List α} {i : Nat} (h : i < xs.length) : el xs i ∈ xs := by rw [el_eq h]; exact List.getElem_mem _
/-- the last group, and what stands ahead of it -/
theorem snoc_of {α : Type} [Inhabited α] (a : List α) (h : 0 < a.length) : ∃ a', a = a' ++ [el a (a.length - 1)] := by
  have hne : a ≠ [] := by intro e; subst e; simp at h
  refine ⟨a.dropLast, ?_⟩
  have h1 := (List.dropLast_concat_getLast hne).symm
  have h2 : a.getLast hne = el a (a.length - 1) := by rw [el_eq (by omega), List.getLast_eq_getElem]
  rw [h2] at h1; exact h1
theorem set_last {α : Type} (a : List α) (x y : α) : (a ++ [x]).set ((a ++ [x]).length - 1) y = a ++ [y] := by
  rw [List.length_append, List.length_singleton, Nat.add_sub_cancel, List.set_append_right _ _ (Nat.le_refl _), Nat.sub_self]; rfl
theorem gpush_snoc (a : Acc) (g : Row × List Row) (t : Row) : gpush (a ++ [g]) t = a ++ [(g.1, g.2 ++ [t])] := by
  unfold gpush
  have e : el (a ++ [g]) ((a ++ [g]).length - 1) = g := by rw [List.length_append, List.length_singleton, Nat.add_sub_cancel]; exact el_snoc_last a g
  rw [e, set_last]
theorem gfold_spec {S : List (Row × Row)} : Rise (fun a b : Row × Row => tups a.1.2 b.1.2) S →
    (gfold S).Pairwise (fun a b => tups a.1.2 b.1.2 < 0) ∧ (∀ x ∈ S, ∃ g ∈ gfold S, g.1.2 = x.1.2) ∧ (∀ g ∈ gfold S, ∃ x ∈ S, g.1 = x.1) ∧ (∀ g ∈ gfold S, g.2 = (S.filter (fun x => decide (x.1.2 = g.1.2))).map (·.2)) ∧ ((gfold S).map (·.1)).Sublist (S.map (·.1)) ∧
    ∀ z, (∀ x ∈ S, tups x.1.2 z ≤ 0) → ∀ a' g, gfold S = a' ++ [g] → ∀ h ∈ a', tups h.1.2 z < 0 := by
  induction S using Go.OrdPure.rev_ind with
  | h0 => intro _; exact ⟨List.Pairwise.nil, by simp, by simp [gfold], by simp [gfold], List.Sublist.refl _, fun z _ a' g e => absurd e (by simp [gfold])⟩
  | h1 S x ih =>
    intro hr
    have hr1 : Rise (fun a b : Row × Row => tups a.1.2 b.1.2) S := (List.pairwise_append.1 hr).1
    have hx : ∀ a ∈ S, tups a.1.2 x.1.2 ≤ 0 := fun a ha => (List.pairwise_append.1 hr).2.2 a ha x (by simp)
    obtain ⟨i1, i2, i3, i4, i5, i6⟩ := ih hr1
    rw [gfold_snoc, gst]
    have key_le : ∀ g ∈ gfold S, tups g.1.2 x.1.2 ≤ 0 := fun g hg => by obtain ⟨y, hy, e⟩ := i3 g hg; rw [e]; exact hx y hy
    by_cases hc : (gfold S).length = 0 ∨ ¬ (el (gfold S) ((gfold S).length - 1)).1.2 = x.1.2
    · have epre : gpre (gfold S) x = gfold S ++ [(x.1, [])] := if_pos hc
      rw [epre, gpush_snoc]
      have hlt : ∀ g ∈ gfold S, tups g.1.2 x.1.2 < 0 := fun g hg => by
        rcases Nat.eq_zero_or_pos (gfold S).length with h0 | h0
        · rw [List.eq_nil_of_length_eq_zero h0] at hg; simp at hg
        · obtain ⟨a', ea⟩ := snoc_of _ h0
          have hl := hc.resolve_left (by omega)
          rw [ea] at hg
          rcases List.mem_append.1 hg with hg | hg
          · exact i6 _ hx a' _ ea g hg
          · rw [List.mem_singleton] at hg; subst hg
            have := key_le _ (el_mem' (by omega) : el (gfold S) ((gfold S).length - 1) ∈ gfold S)
            have h3 : ¬ tups (el (gfold S) ((gfold S).length - 1)).1.2 x.1.2 = 0 := fun e => hl (tups_zero e)
            omega
      have hnk : ∀ y ∈ S, ¬ y.1.2 = x.1.2 := fun y hy e => by
        obtain ⟨g, hg, eg⟩ := i2 y hy
        have := hlt g hg
        rw [eg, e, tups_self] at this; omega
      refine ⟨List.pairwise_append.2 ⟨i1, List.pairwise_singleton _ _, fun a ha b hb => by rw [List.mem_singleton] at hb; subst hb; exact hlt a ha⟩, fun y hy => ?_, fun g hg => ?_, fun g hg => ?_, ?_, fun z hz a' g e h hh => ?_⟩
      · rcases List.mem_append.1 hy with hy | hy
        · obtain ⟨g, hg, e⟩ := i2 y hy; exact ⟨g, List.mem_append_left _ hg, e⟩
        · rw [List.mem_singleton] at hy; exact ⟨(x.1, [] ++ [x.2]), List.mem_append_right _ (List.mem_singleton.2 rfl), by rw [hy]⟩
      · rcases List.mem_append.1 hg with hg | hg
        · obtain ⟨y, hy, e⟩ := i3 g hg; exact ⟨y, List.mem_append_left _ hy, e⟩
        · rw [List.mem_singleton] at hg; subst hg; exact ⟨x, by simp, rfl⟩
      · rw [List.filter_append, List.map_append]
        rcases List.mem_append.1 hg with hg | hg
        · rw [i4 g hg]
          have hne : ¬ x.1.2 = g.1.2 := fun e => by have := hlt g hg; rw [e, tups_self] at this; omega
          simp [hne]
        · rw [List.mem_singleton] at hg; subst hg
          have : S.filter (fun y => decide (y.1.2 = x.1.2)) = [] := by rw [List.filter_eq_nil_iff]; intro y hy; simpa using hnk y hy
          dsimp only
          rw [this]; simp
      · rw [List.map_append, List.map_append]; exact i5.append (List.Sublist.refl _)
      · obtain ⟨e1, e2⟩ := List.append_inj' e rfl
        rw [← e1] at hh
        exact tups_law.lt_of_lt_le (hlt h hh) (hz x (by simp))
    · have epre : gpre (gfold S) x = gfold S := if_neg hc
      have h0 : 0 < (gfold S).length := by omega
      have hk : (el (gfold S) ((gfold S).length - 1)).1.2 = x.1.2 := Decidable.of_not_not fun e => hc (.inr e)
      obtain ⟨a', ea⟩ := snoc_of _ h0
      obtain ⟨g0, hg0⟩ : ∃ g0, g0 = el (gfold S) ((gfold S).length - 1) := ⟨_, rfl⟩
      rw [← hg0] at ea hk
      rw [epre, ea, gpush_snoc]
      rw [ea] at i1 i2 i3 i4 i5
      obtain ⟨p1, _, p3⟩ := List.pairwise_append.1 i1
      have hax : ∀ g ∈ a', tups g.1.2 x.1.2 < 0 := fun g hg => by have := p3 g hg g0 (by simp); rwa [hk] at this
      refine ⟨List.pairwise_append.2 ⟨p1, List.pairwise_singleton _ _, fun a ha b hb => by rw [List.mem_singleton] at hb; subst hb; exact p3 a ha g0 (by simp)⟩, fun y hy => ?_, fun g hg => ?_, fun g hg => ?_, ?_, fun z hz b' g e h hh => ?_⟩
      · rcases List.mem_append.1 hy with hy | hy
        · obtain ⟨g, hg, e⟩ := i2 y hy
          rcases List.mem_append.1 hg with hg | hg
          · exact ⟨g, List.mem_append_left _ hg, e⟩
          · rw [List.mem_singleton] at hg; rw [hg] at e; exact ⟨(g0.1, g0.2 ++ [x.2]), List.mem_append_right _ (List.mem_singleton.2 rfl), e⟩
        · rw [List.mem_singleton] at hy; exact ⟨(g0.1, g0.2 ++ [x.2]), List.mem_append_right _ (List.mem_singleton.2 rfl), by rw [hy]; exact hk⟩
      · rcases List.mem_append.1 hg with hg | hg
        · obtain ⟨y, hy, e⟩ := i3 g (List.mem_append_left _ hg); exact ⟨y, List.mem_append_left _ hy, e⟩
        · rw [List.mem_singleton] at hg; subst hg
          obtain ⟨y, hy, e⟩ := i3 g0 (by simp); exact ⟨y, List.mem_append_left _ hy, e⟩
      · rw [List.filter_append, List.map_append]
        rcases List.mem_append.1 hg with hg | hg
        · rw [i4 g (List.mem_append_left _ hg)]
          have hne : ¬ x.1.2 = g.1.2 := fun e => by have := hax g hg; rw [e, tups_self] at this; omega
          simp [hne]
        · rw [List.mem_singleton] at hg; subst hg
          dsimp only
          rw [i4 g0 (by simp)]
          simp [hk]
      · rw [List.map_append] at i5 ⊢
        rw [List.map_append]
        exact i5.trans (List.sublist_append_left _ _)
      · obtain ⟨e1, e2⟩ := List.append_inj' e rfl
        rw [← e1] at hh
        exact tups_law.lt_of_lt_le (hax h hh) (hz x (by simp))
/-! what the groups say -/
def gT (g : Row × List Row) : Tup × List Tup := (g.1.2, tp g.2)
def grpL (ls : List Int) (P : List Tup) : List (Tup × List Tup) := (setL ((setL P).map fun t => cutL t ls)).map fun k => (k, (setL P).filter fun t => decide (cutL t ls = k))
theorem pair_ext {α β : Type} : ∀ {A B : List (α × β)} (f : α → β), A.map (·.1) = B.map (·.1) → (∀ g ∈ A, g.2 = f g.1) → (∀ g ∈ B, g.2 = f g.1) → A = B
  | [], [], _, _, _, _ => rfl
  | [], _ :: _, _, h, _, _ => by simp at h
  | _ :: _, [], _, h, _, _ => by simp at h
  | a :: A, b :: B, f, h, h1, h2 => by
    simp only [List.map_cons, List.cons.injEq] at h
    obtain ⟨e1, e2⟩ := h
    have ea := h1 a (by simp)
    have eb := h2 b (by simp)
    rw [pair_ext f e2 (fun g hg => h1 g (List.mem_cons_of_mem _ hg)) fun g hg => h2 g (List.mem_cons_of_mem _ hg)]
    congr 1
    exact Prod.ext e1 (by rw [ea, eb, e1])
theorem filter_map' {α β : Type} (f : α → β) (p : β → Bool) (l : List α) : (l.map f).filter p = (l.filter (fun x => p (f x))).map f := by
  induction l with
  | nil => rfl
  | cons x l ih => simp only [List.map_cons, List.filter_cons]; split <;> simp [ih]
theorem grp_is {P : List Tup} {ls : List Int} {RL : List (Row × Row)} {R : List Row} (hR : tp R = setL P) (h1 : RL.map (·.2) = R) (h2 : ∀ x ∈ RL, x.1.2 = cutL x.2.2 ls) :
    (gfold (srt (fun a b : Row × Row => tups a.1.2 b.1.2) RL)).map gT = grpL ls P := by
  have hc : Lawful (fun a b : Row × Row => tups a.1.2 b.1.2) := tups_law.on fun x : Row × Row => x.1.2
  obtain ⟨s1, s2, s3, s4, _, _⟩ := gfold_spec (srt_rise hc RL)
  have hkeys : ∀ k, (∃ x ∈ RL, x.1.2 = k) ↔ k ∈ (setL P).map fun t => cutL t ls := fun k => by
    rw [← hR, ← h1]
    unfold tp
    rw [List.map_map, List.map_map, List.mem_map]
    exact ⟨fun ⟨x, hx, e⟩ => ⟨x, hx, by rw [← e, h2 x hx]; rfl⟩, fun ⟨x, hx, e⟩ => ⟨x, hx, by rw [h2 x hx]; exact e⟩⟩
  refine pair_ext (fun k => (setL P).filter fun t => decide (cutL t ls = k)) ?_ ?_ ?_
  · have e : (((gfold (srt (fun a b : Row × Row => tups a.1.2 b.1.2) RL)).map gT).map (·.1)) = (gfold (srt (fun a b : Row × Row => tups a.1.2 b.1.2) RL)).map (fun g => g.1.2) := by rw [List.map_map]; rfl
    have e2 : (grpL ls P).map (·.1) = setL ((setL P).map fun t => cutL t ls) := by unfold grpL; rw [List.map_map]; exact List.map_id' _
    rw [e, e2]
    have hs := setL_is ((setL P).map fun t => cutL t ls)
    refine strict_uniq tups_law (fun _ _ => tups_zero) (List.pairwise_map.2 s1) hs.1 fun t => ?_
    rw [hs.2 t, ← hkeys t, List.mem_map]
    constructor
    · rintro ⟨g, hg, rfl⟩
      obtain ⟨x, hx, e⟩ := s3 g hg
      exact ⟨x, (srt_mem _ _).1 hx, by rw [e]⟩
    · rintro ⟨x, hx, rfl⟩
      obtain ⟨g, hg, e⟩ := s2 x ((srt_mem _ _).2 hx)
      exact ⟨g, hg, e⟩
  · intro g hg
    obtain ⟨g0, hg0, rfl⟩ := List.mem_map.1 hg
    show tp g0.2 = _
    rw [s4 g0 hg0, srt_filter (f := fun x : Row × Row => x.1.2) hc (fun a b => ⟨tups_zero, fun e => by rw [e]; exact tups_self _⟩) g0.1.2 RL]
    show _ = (setL P).filter fun t => decide (cutL t ls = g0.1.2)
    rw [← hR, ← h1]
    unfold tp
    rw [List.map_map, filter_map', filter_map', List.map_map]
    congr 1
    refine List.filter_congr fun x hx => ?_
    rw [h2 x hx]
  · intro g hg
    obtain ⟨k, _, rfl⟩ := List.mem_map.1 hg
    rfl
theorem gpre_mem_len {acc : Acc} {x : Row × Row} {m : Nat} (h : ∀ g ∈ acc, g.2.length ≤ m) : ∀ g ∈ gpre acc x, g.2.length ≤ m := by
  intro g hg
  unfold gpre at hg
  split at hg
  · rcases List.mem_append.1 hg with hg | hg
    · exact h g hg
    · rw [List.mem_singleton] at hg; subst hg; exact Nat.zero_le _
  · exact h g hg
theorem gfold_mem_len (S : List (Row × Row)) : ∀ g ∈ gfold S, g.2.length ≤ S.length := by
  induction S using Go.OrdPure.rev_ind with
  | h0 => intro g hg; simp [gfold] at hg
  | h1 S x ih =>
    intro g hg
    rw [gfold_snoc, gst] at hg
    rw [List.length_append, List.length_singleton]
    obtain ⟨a', ea⟩ := snoc_of _ (gpre_pos (gfold S) x)
    have hp := gpre_mem_len (x := x) ih
    generalize el (gpre (gfold S) x) ((gpre (gfold S) x).length - 1) = g0 at ea
    rw [ea] at hg hp
    rw [gpush_snoc] at hg
    rcases List.mem_append.1 hg with hg | hg
    · have := hp g (List.mem_append_left _ hg); omega
    · rw [List.mem_singleton] at hg; subst hg
      have := hp g0 (by simp)
      simp only [List.length_append, List.length_singleton]; omega
theorem KOK.gk {w w' : World} {lo : Nat} {K : List Row} {row : Option Nat} {Kd : Nat} (h : KOK w.heap lo K) (hg : w.grownBy w' row) (hr : RowK w.heap row Kd) (hK : 9 + 3 ≠ Kd) : KOK w'.heap lo K := ⟨fun x hx => (h.own x hx).gk hg hr hK, h.apart⟩
theorem IMap.kind {P : Program} {k e : TypeId} {w : World} {b n : Nat} {f : Int → Bool} (h : IMap P k e w b n f) : kindOf w.heap b = 1 := by
  obtain ⟨_, ⟨es, clock, hb0, _⟩, _⟩ := h
  unfold kindOf; rw [hb0]
theorem IMap.rowk {P : Program} {k e : TypeId} {w : World} {b n : Nat} {f : Int → Bool} (h : IMap P k e w b n f) : RowK w.heap (some b) 1 := ⟨fun _ e => Option.some.inj e ▸ h.kind⟩
theorem IMap.gk {P : Program} {k e : TypeId} {w w' : World} {b n : Nat} {f : Int → Bool} {row : Option Nat} {Kd : Nat} (h : IMap P k e w b n f) (hg : w.grownBy w' row) (hr : RowK w.heap row Kd) (hK : 1 ≠ Kd) : IMap P k e w' b n f :=
  h.block (hg.block b h.lt fun e => hK (h.kind.symm.trans (hr.k b e.symm)))
def seenB (ls : List Int) (i : Nat) (a : Int) : Bool := decide (∃ j, j < i ∧ el ls j = a)
theorem seenB_zero (ls : List Int) : seenB ls 0 = fun _ => false := funext fun a => decide_eq_false (by rintro ⟨j, hj, _⟩; omega)
theorem seenB_succ (ls : List Int) (i : Nat) : seenB ls (i + 1) = fun x => if x = el ls i then true else seenB ls i x := by
  funext x
  unfold seenB
  by_cases h : x = el ls i
  · rw [if_pos h]; exact decide_eq_true ⟨i, by omega, h.symm⟩
  · rw [if_neg h]; refine decide_eq_decide.2 ⟨?_, ?_⟩
    · rintro ⟨j, hj, e⟩
      by_cases hji : j = i
      · subst hji; exact absurd e.symm h
      · exact ⟨j, by omega, e⟩
    · rintro ⟨j, hj, e⟩; exact ⟨j, by omega, e⟩
theorem leave3 {P : Program} {fn : Func} {R : Ending → World → Prop} {n : Nat} {σ : Nat → Value} {w : World} {t u s : Nat} {v v' v'' : Value} (hr : fn.results = #[.tmp t, .tmp u, .tmp s]) (ht : ev n σ (.tmp t) = v) (hu : ev n σ (.tmp u) = v') (hs : ev n σ (.tmp s) = v'')
    (h : R (.returned (.tuple #[v, v', v''])) w) : bodyPost P fn R .ret (F n σ []) w := by
  refine ⟨rfl, _, ?_, h⟩
  have h1 : (F n σ []).tmps.getD t undef = v := by rw [← ht, ← F_eval n σ []]; rfl
  have h2 : (F n σ []).tmps.getD u undef = v' := by rw [← hu, ← F_eval n σ []]; rfl
  have h3 : (F n σ []).tmps.getD s undef = v'' := by rw [← hs, ← F_eval n σ []]; rfl
  rw [← h1, ← h2, ← h3]
  simp [results, hr]
theorem nodup_le {α : Type} [DecidableEq α] : ∀ {K L : List α}, K.Nodup → (∀ s, s ∈ K → s ∈ L) → K.length ≤ L.length
  | [], _, _, _ => Nat.zero_le _
  | x :: K, L, h, hs => by
    obtain ⟨h1, h2⟩ := List.nodup_cons.1 h
    have hx := hs x (by simp)
    have := nodup_le (L := L.erase x) h2 fun s hm => (List.mem_erase_of_ne (by rintro rfl; exact h1 hm)).2 (hs s (List.mem_cons_of_mem _ hm))
    rw [List.length_erase_of_mem hx] at this
    have := List.length_pos_of_mem hx
    simp; omega
theorem cols_len {ar : Int} {ls : List Int} (h : ColsOK ar ls) (ha : ar ≤ 16) : ls.length ≤ 16 := by
  have hb : ∀ i, i < ls.length → 0 ≤ el ls i ∧ el ls i < ar := fun i hi => by
    have h1 := (h i hi).1
    unfold badC at h1
    have h2 := of_decide_eq_false h1
    omega
  have hn : (ls.map Int.toNat).Nodup := by
    rw [List.nodup_iff_pairwise_ne]
    refine List.pairwise_iff_getElem.2 fun i j hi hj hij e => ?_
    rw [List.length_map] at hi hj
    rw [List.getElem_map, List.getElem_map, ← el_eq hi, ← el_eq hj] at e
    have h1 := hb i hi
    have h2 := hb j hj
    exact (h j hj).2 i hij (by omega)
  have := nodup_le (L := List.range 16) hn fun s hs => by
    obtain ⟨x, hx, rfl⟩ := List.mem_map.1 hs
    obtain ⟨i, hi, rfl⟩ := List.getElem_of_mem hx
    have := hb i hi
    rw [el_eq hi] at this
    exact List.mem_range.2 (by omega)
  rw [List.length_map, List.length_range] at this
  exact this
end Go.Eng
