/- The number of a text as the program finds it: one byte behind the other. Plain. -/
import Derived.Test.YtegpcbckiehleaaDoorSNum
namespace Go.Eng
open Go.RowKit Go.Flt
theorem dec_small {s : ByteArray} {i : Nat} (h : ch s i < 128) : Utf8.decode s i = (ch s i, 1) := by
  have h' : (s.get! (i + 0)).toNat < 0x80 := h
  unfold Utf8.decode
  simp only [h', if_true]; rfl
theorem dec_big {s : ByteArray} {i : Nat} (h : ¬ ch s i < 128) : 128 ≤ (Utf8.decode s i).1 := by
  have h' : ¬ (s.get! (i + 0)).toNat < 0x80 := h
  unfold Utf8.decode
  simp only [h', if_false, Utf8.runeError]
  repeat' split
  all_goals first | (simp only; omega) | (simp_all; done) | (simp_all; omega)
theorem dec_is {s : ByteArray} {i c : Nat} (h : (Utf8.decode s i).1 = c) (hc : c < 128) : ch s i = c ∧ (Utf8.decode s i).2 = 1 := by
  by_cases hb : ch s i < 128
  · rw [dec_small hb] at h ⊢; exact ⟨h, rfl⟩
  · have := dec_big hb; omega
structure NSt where
  first : Bool
  minus : Bool
  n : Nat
  d : Nat
  b : Int
def stp (t : NSt) (c : Nat) : Option NSt :=
  if c = 45 ∧ t.first = true then some ⟨false, true, t.n, t.d, t.b⟩
  else if dig c then (if t.d = 15 then none else some ⟨false, t.minus, 10 * t.n + (c - 48), t.d + 1, if 0 ≤ t.b then t.b + 1 else t.b⟩)
  else if c = 46 ∧ t.b < 0 ∧ 0 < t.d then some ⟨false, t.minus, t.n, t.d, 0⟩
  else none
def scan : NSt → List Nat → Option NSt
  | t, [] => some t
  | t, c :: l => (stp t c).bind fun t' => scan t' l
def fin (t : NSt) : Option Nat := if t.d = 0 ∨ t.b = 0 then none else some (if t.minus = true then negF (numBits t.n t.b.toNat) else numBits t.n t.b.toNat)
def st0 : NSt := ⟨true, false, 0, 0, -1⟩
theorem stp_dig {t : NSt} {c : Nat} (hc : dig c) : stp t c = if t.d = 15 then none else some ⟨false, t.minus, 10 * t.n + (c - 48), t.d + 1, if 0 ≤ t.b then t.b + 1 else t.b⟩ := by
  unfold stp; rw [if_neg (by unfold dig at hc; omega), if_pos hc]
/-- digits gone over -/
theorem scan_digs {f m : Bool} (r : List Nat) : ∀ (l : List Nat) (n d : Nat) (b : Int), (∀ x ∈ l, dig x) → d ≤ 15 → l ≠ [] →
    scan ⟨f, m, n, d, b⟩ (l ++ r) = if 15 < d + l.length then none else scan ⟨false, m, l.foldl (fun n b => 10 * n + (b - 48)) n, d + l.length, if 0 ≤ b then b + l.length else b⟩ r := by
  intro l
  induction l generalizing f with
  | nil => intro n d b _ _ h; exact absurd rfl h
  | cons c l ih =>
    intro n d b hl hd _
    have hc : dig c := hl c (by simp)
    rw [List.cons_append, scan, stp_dig hc]
    by_cases h15 : d = 15
    · rw [if_pos h15, if_pos (by simp only [List.length_cons]; omega)]; rfl
    · rw [if_neg h15]
      simp only [Option.bind_some]
      by_cases hn : l = []
      · subst hn
        simp only [List.nil_append, List.length_cons, List.length_nil, List.foldl_cons, List.foldl_nil]
        rw [if_neg (show ¬ 15 < d + (0 + 1) by omega)]; rfl
      · rw [ih (10 * n + (c - 48)) (d + 1) _ (fun x hx => hl x (List.mem_cons_of_mem _ hx)) (by omega) hn]
        simp only [List.length_cons, List.foldl_cons]
        by_cases h2 : 15 < d + 1 + l.length
        · rw [if_pos h2, if_pos (show 15 < d + (l.length + 1) by omega)]
        · rw [if_neg h2, if_neg (show ¬ 15 < d + (l.length + 1) by omega), show d + 1 + l.length = d + (l.length + 1) by omega]
          congr 2
          by_cases hb : 0 ≤ b
          · rw [if_pos hb, if_pos (show 0 ≤ b + 1 by omega), if_pos hb]; omega
          · rw [if_neg hb, if_neg hb, if_neg hb]
theorem digs_all {l : List Nat} : digs l = true ↔ l ≠ [] ∧ ∀ x ∈ l, dig x := by
  unfold digs
  rw [Bool.and_eq_true, List.all_eq_true, decide_eq_true_eq, List.length_pos_iff]
  simp only [decide_eq_true_eq]
  exact and_comm
theorem digs_bad {l : List Nat} {x : Nat} (hx : x ∈ l) (h : ¬ dig x) : digs l = false := by
  cases e : digs l
  · rfl
  · exact absurd ((digs_all.1 e).2 x hx) h
/-- what goes ahead of the first byte that is no digit -/
theorem split_dig (l : List Nat) : ∃ f r, l = f ++ r ∧ (∀ x ∈ f, dig x) ∧ ∀ c r', r = c :: r' → ¬ dig c := by
  induction l with
  | nil => exact ⟨[], [], rfl, by simp, by simp⟩
  | cons c l ih =>
    by_cases hc : dig c
    · obtain ⟨f, r, rfl, h1, h2⟩ := ih
      exact ⟨c :: f, r, rfl, fun x hx => by rcases List.mem_cons.1 hx with rfl | hx; exact hc; exact h1 x hx, h2⟩
    · exact ⟨[], c :: l, rfl, by simp, fun c' r' e => by injection e with e1 _; rw [← e1]; exact hc⟩
theorem dot_no {f : List Nat} (h : ∀ x ∈ f, x ≠ 46) : dot f = f.length := by
  unfold dot
  rw [List.findIdx_eq_length]
  intro x hx; simpa using h x hx
theorem dot_at {f r : List Nat} (h : ∀ x ∈ f, x ≠ 46) : dot (f ++ 46 :: r) = f.length := by
  unfold dot
  rw [List.findIdx_append, List.findIdx_cons]
  have h0 := dot_no h
  unfold dot at h0
  rw [h0]; simp
theorem stp_bad {t : NSt} {c : Nat} (h1 : t.first = false) (h2 : ¬ dig c) (h3 : c ≠ 46 ∨ 0 ≤ t.b ∨ t.d = 0) : stp t c = none := by
  unfold stp
  rw [if_neg (by rw [h1]; simp), if_neg h2, if_neg (by omega)]
theorem bind_none' {α β : Type} (f : α → Option β) : (none : Option α).bind f = none := rfl
/-- digits and what is behind them, begun -/
theorem scan_numB (m : Bool) (l : List Nat) : (scan ⟨false, m, 0, 0, -1⟩ l).bind fin = (numB l).map fun x => if m = true then negF x else x := by
  obtain ⟨f, r, rfl, hf, hr⟩ := split_dig l
  have h46 : ∀ x ∈ f, x ≠ 46 := fun x hx => by have := hf x hx; unfold dig at this; omega
  by_cases hf0 : f = []
  · subst hf0
    rw [List.nil_append]
    cases r with
    | nil =>
      have : numB [] = none := by unfold numB; rw [if_pos (.inr (.inl rfl))]
      rw [this]; rfl
    | cons c r =>
      have hc := hr c r rfl
      rw [scan, stp_bad rfl hc (.inr (.inr rfl))]
      have : numB (c :: r) = none := by
        unfold numB
        refine if_pos (.inr (.inl ?_))
        by_cases h : c = 46
        · subst h; have : dot (46 :: r) = 0 := dot_at (f := []) (by simp)
          unfold front; rw [this]; rfl
        · refine digs_bad (x := c) ?_ hc
          unfold front dot
          rw [List.findIdx_cons, show (c == 46) = false by simpa using h]
          exact List.mem_cons_self
      rw [this]; rfl
  · rw [scan_digs r f 0 0 (-1) hf (by omega) hf0]
    rw [if_neg (show ¬ (0 : Int) ≤ -1 by decide)]
    simp only [Nat.zero_add]
    have hdf : digs f = true := digs_all.2 ⟨hf0, hf⟩
    have hl0 : 0 < f.length := List.length_pos_iff.2 hf0
    cases r with
    | nil =>
      rw [List.append_nil]
      have ed := dot_no h46
      have e1 : front f = f := by unfold front; rw [ed]; exact List.take_length
      have e2 : back f = [] := by unfold back; rw [ed]; exact List.drop_of_length_le (by omega)
      have : numB f = if 15 < f.length then none else some (fromInt (whole f : Nat)) := by
        unfold numB
        rw [e1, e2, ed, hdf, List.append_nil]
        by_cases h : 15 < f.length
        · rw [if_pos (.inr (.inr (by simpa using h))), if_pos h]
        · rw [if_neg (by rintro (⟨h1, _⟩ | h1 | h1) <;> simp at h1; omega), if_neg h]
          unfold numBits; simp
      rw [this]
      by_cases h : 15 < f.length
      · rw [if_pos h, if_pos h]; rfl
      · rw [if_neg h, if_neg h]
        simp only [scan, Option.bind_some, fin]
        rw [if_neg (show ¬ (f.length = 0 ∨ (-1 : Int) = 0) by omega)]
        have e0 : numBits (whole f) (Int.toNat (-1)) = fromInt (whole f : Nat) := by unfold numBits; exact if_neg (by decide)
        have ew : f.foldl (fun n b => 10 * n + (b - 48)) 0 = whole f := rfl
        rw [ew, e0, Option.map_some]
    | cons c r =>
      have hc := hr c r rfl
      by_cases h : c = 46
      · subst h
        have ed := dot_at (r := r) h46
        have e1 : front (f ++ 46 :: r) = f := by unfold front; rw [ed]; simp
        have e2 : back (f ++ 46 :: r) = r := by unfold back; rw [ed, show f ++ 46 :: r = (f ++ [46]) ++ r by simp, List.drop_left' (by simp)]
        have : numB (f ++ 46 :: r) = if digs r = false ∨ 15 < f.length + r.length then none else some (numBits (whole (f ++ r)) r.length) := by
          unfold numB
          rw [e1, e2, ed, hdf]
          by_cases h : digs r = false ∨ 15 < f.length + r.length
          · rw [if_pos (by rcases h with h | h; exact .inl ⟨by simp, h⟩; exact .inr (.inr h)), if_pos h]
          · rw [if_neg (by rintro (⟨_, h1⟩ | h1 | h1); exact h (.inl h1); simp at h1; exact h (.inr h1)), if_neg h]
        rw [this]
        by_cases h15 : 15 < f.length
        · rw [if_pos h15, if_pos (.inr (by omega))]; rfl
        rw [if_neg h15, scan]
        have es : stp ⟨false, m, f.foldl (fun n b => 10 * n + (b - 48)) 0, f.length, -1⟩ 46 = some ⟨false, m, whole f, f.length, 0⟩ := by
          unfold stp
          rw [if_neg (by simp), if_neg (by decide), if_pos ⟨rfl, (by decide : (-1 : Int) < 0), hl0⟩]; rfl
        rw [es]
        simp only [Option.bind_some]
        obtain ⟨g, r2, rfl, hg, hr2⟩ := split_dig r
        by_cases hg0 : g = []
        · subst hg0
          cases r2 with
          | nil => rw [if_pos (.inl rfl)]; simp [scan, fin]
          | cons c2 r2 =>
            have hc2 := hr2 c2 r2 rfl
            rw [List.nil_append, scan, stp_bad rfl hc2 (.inr (.inl (Int.le_refl 0))), if_pos (.inl (digs_bad (x := c2) (by simp) hc2))]; rfl
        · rw [scan_digs r2 g _ _ 0 hg (by omega) hg0]
          rw [if_pos (show (0 : Int) ≤ 0 by decide)]
          have hlg : 0 < g.length := List.length_pos_iff.2 hg0
          cases r2 with
          | nil =>
            rw [List.append_nil] at *
            have hdg : digs g = true := digs_all.2 ⟨hg0, hg⟩
            rw [hdg]
            by_cases h2 : 15 < f.length + g.length
            · rw [if_pos h2, if_pos (.inr h2)]; rfl
            · rw [if_neg h2, if_neg (by simp; omega)]
              simp only [scan, Option.bind_some, fin]
              rw [if_neg (show ¬ (f.length + g.length = 0 ∨ (0 : Int) + (g.length : Int) = 0) by omega)]
              have ew : whole (f ++ g) = g.foldl (fun n b => 10 * n + (b - 48)) (whole f) := by unfold whole; rw [List.foldl_append]
              rw [ew]
              have ek : ((0 : Int) + (g.length : Int)).toNat = g.length := by omega
              rw [ek, Option.map_some]
          | cons c2 r2 =>
            have hc2 := hr2 c2 r2 rfl
            rw [digs_bad (l := g ++ c2 :: r2) (x := c2) (by simp) hc2, if_pos (c := false = false ∨ 15 < f.length + (g ++ c2 :: r2).length) (.inl rfl)]
            by_cases h16 : 15 < f.length + g.length
            · rw [if_pos h16]; rfl
            · rw [if_neg h16, scan, stp_bad rfl hc2 (.inr (.inl (show (0 : Int) ≤ 0 + (g.length : Int) by omega)))]; rfl
      · have : numB (f ++ c :: r) = none := by
          unfold numB
          refine if_pos (.inr (.inl (digs_bad (x := c) ?_ hc)))
          unfold front dot
          rw [List.findIdx_append]
          have h0 := dot_no h46
          unfold dot at h0
          rw [h0, if_neg (by omega), List.findIdx_cons]
          have : (c == 46) = false := by simpa using h
          rw [this]
          simp only [cond_false]
          rw [List.mem_take_iff_getElem]
          exact ⟨f.length, by simp; omega, by simp⟩
        rw [this]
        split
        · rfl
        · rw [scan, stp_bad rfl hc (.inl h)]; rfl
theorem first_irr (m : Bool) (n d : Nat) (b : Int) (l : List Nat) (h : l.head? ≠ some 45) : scan ⟨true, m, n, d, b⟩ l = match l with | [] => some ⟨true, m, n, d, b⟩ | _ => scan ⟨false, m, n, d, b⟩ l := by
  cases l with
  | nil => rfl
  | cons c l =>
    simp only [scan]
    have : stp ⟨true, m, n, d, b⟩ c = stp ⟨false, m, n, d, b⟩ c := by
      unfold stp
      have hc : c ≠ 45 := fun e => h (by rw [e]; rfl)
      simp [hc]
    rw [this]
theorem scan_numL (l : List Nat) : (scan st0 l).bind fin = numL l := by
  unfold numL st0
  by_cases h : l.head? = some 45
  · rw [if_pos h]
    obtain ⟨c, l, rfl⟩ : ∃ c r, l = c :: r := by cases l with
      | nil => cases h
      | cons c r => exact ⟨c, r, rfl⟩
    simp only [List.head?_cons, Option.some.injEq] at h
    subst h
    have := scan_numB true l
    simp only [if_true] at this
    rw [List.tail_cons, ← this]
    rfl
  · rw [if_neg h, first_irr _ _ _ _ _ h]
    have := scan_numB false l
    simp only [Bool.false_eq_true, if_false, Option.map_id'] at this
    cases l with
    | nil => rw [← this]; rfl
    | cons c r => exact this
end Go.Eng
