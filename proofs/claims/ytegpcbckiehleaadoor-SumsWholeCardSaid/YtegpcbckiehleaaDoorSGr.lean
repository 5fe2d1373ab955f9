/- Groups: rows with keys, sorted, cut into groups. Seat-free. -/
import Derived.Test.YtegpcbckiehleaaDoorSOp2
import Derived.Test.YtegpcbckiehleaaDoorIM
namespace Go.Eng
open Go.RowKit Go.OrdPure Go.Flt
structure Grp where
  q : Option Addr
  c : Nat
  key : Tup
  count : Int
  numbers : Int
  sum : Nat
  mean : Nat
  spread : Nat
  least : Nat
  greatest : Nat
instance : Inhabited Grp := ⟨⟨none, 0, [], 0, 0, 0, 0, 0, 0, 0⟩⟩
def enG (g : Grp) : List Value := [.slice g.q g.key.length g.c, .int .i64 g.count, .int .i64 g.numbers, .float .f64 g.sum, .float .f64 g.mean, .float .f64 g.spread, .float .f64 g.least, .float .f64 g.greatest]
theorem enG_len (g : Grp) : (enG g).length = 8 := rfl
theorem flat_onesG {xs : List Grp} : (flat enG xs).all (·.oneCell') = true := by
  induction xs with
  | nil => rfl
  | cons x xs ih => simp only [flat, List.flatMap_cons, List.all_append] at *; rw [ih]; rfl
/-! one cell of an element is turned -/
theorem splice_one {cs : List Value} {o : Nat} {v : Value} (h : o < cs.length) : splice cs o [v] = cs.set o v := by
  rw [List.set_eq_take_append_cons_drop, if_pos h]; simp [splice]
theorem flat_setF {α : Type} [Inhabited α] {enc : α → List Value} {k : Nat} (hk : ∀ x, (enc x).length = k) (R : List Value) (v : Value) (u : α) (f : Nat) (hf : f < k) : ∀ (xs : List α) (i : Nat), i < xs.length → enc u = (enc (el xs i)).set f v → (flat enc xs ++ R).set (i * k + f) v = flat enc (xs.set i u) ++ R
  | [], i, h, _ => by simp at h
  | x :: xs, 0, _, hu => by
    have e : flat enc (x :: xs) = enc x ++ flat enc xs := by simp [flat]
    have e2 : flat enc (u :: xs) = enc u ++ flat enc xs := by simp [flat]
    have e3 : el (x :: xs) 0 = x := rfl
    rw [e3] at hu
    rw [List.set_cons_zero, e, e2, hu, Nat.zero_mul, Nat.zero_add, List.append_assoc, List.append_assoc, List.set_append_left _ _ (by rw [hk]; exact hf)]
  | x :: xs, i + 1, h, hu => by
    have e : flat enc (x :: xs) = enc x ++ flat enc xs := by simp [flat]
    have e2 : flat enc (x :: xs.set i u) = enc x ++ flat enc (xs.set i u) := by simp [flat]
    have e3 : el (x :: xs) (i + 1) = el xs i := rfl
    rw [e3] at hu
    have ih := flat_setF hk R v u f hf xs i (by simpa using h) hu
    rw [List.set_cons_succ, e, e2, List.append_assoc, List.append_assoc, ← ih, List.set_append_right _ _ (by rw [hk, Nat.succ_mul]; omega), hk, Nat.succ_mul]
    congr 2
    omega
theorem e_stOF {P : Program} {n : Nat} {σ : Nat → Value} {w : World} {ty t : TypeId} {K : Value → World → Prop} {x y : Operand} {α : Type} [Inhabited α] {enc : α → List Value} {k : Nat} (hk : ∀ x, (enc x).length = k) {lo b c i f : Nat} {v : Value} {u : α} {xs : List α} {T : TypeId} (hs : SZ P t 1) (hx : ev n σ x = .pointer (some ⟨b, 0 + i * k + f, none⟩)) (hy : ev n σ y = v) (hv : v.cells.toList = [v]) (h1 : v.oneCell' = true) (ho : OB w.heap lo T k b c (flat enc xs))
    (hi : i < xs.length) (hf : f < k) (hu : enc u = (enc (el xs i)).set f v)
    (kk : ∀ w' o, Pt w w' b o → OB w'.heap lo T k b c (flat enc (xs.set i u)) → K undef w') : Eff P (ev n σ) w (.store t x y) ty K := by
  obtain ⟨R, hB, hR⟩ := ho.blk
  have hsz : v.cells.size = 1 := by rw [← Array.length_toList, hv]; rfl
  have hlt : i * k + f < (flat enc xs ++ R).length := by
    rw [List.length_append, flat_length hk]
    have : (i + 1) * k ≤ xs.length * k := Nat.mul_le_mul_right _ (by omega)
    rw [Nat.add_mul] at this; omega
  refine e_store (v := v) (by rw [hsz]; exact hs) hx hy hB (by rw [hsz]; omega) (fun z hz => one_of (by rw [hv, List.mem_singleton] at hz; subst hz; exact h1)) fun w' hp => ?_
  have e : splice (flat enc xs ++ R) (0 + i * k + f) v.cells.toList = flat enc (xs.set i u) ++ R := by
    rw [hv, Nat.zero_add, splice_one hlt, flat_setF hk R v u f hf xs i hi hu]
  rw [e] at hp
  refine kk w' _ hp ⟨ho.lo, ⟨R, hp.new, ?_⟩, ho.cap⟩
  rw [List.length_append, flat_length hk, List.length_set, ← flat_length hk xs, ← List.length_append]
  exact hR
/-! families that grow -/
theorem Fam.nil (h : Array Obj) (lo : Nat) (T : TypeId) {α : Type} (enc : α → List Value) : Fam h lo T enc [] [] := ⟨rfl, fun i hi => absurd hi (Nat.not_lt_zero _), fun i _ _ hi => absurd hi (Nat.not_lt_zero _)⟩
theorem el_snoc_last {α : Type} [Inhabited α] (xs : List α) (x : α) : el (xs ++ [x]) xs.length = x := by
  have := el_append_right (xs := xs) (ys := [x]) (i := 0)
  rw [Nat.add_zero] at this; rw [this]; rfl
theorem Fam.snocNil {α : Type} {enc : α → List Value} {h : Array Obj} {lo : Nat} {T : TypeId} {vs : List Value} {rows : List (List α)} (hf : Fam h lo T enc vs rows) : Fam h lo T enc (vs ++ [.slice none 0 0]) (rows ++ [[]]) := by
  have hl := hf.len
  refine ⟨by simp [hl], fun i hi => ?_, fun i j b hi hj h1 h2 => ?_⟩
  · rw [List.length_append, List.length_singleton] at hi
    by_cases e : i < vs.length
    · rw [el_append_left e, el_append_left (by omega)]; exact hf.own i e
    · have : i = vs.length := by omega
      subst this
      rw [el_snoc_last, hl, el_snoc_last]; exact Own.nil _ _ _ _
  · rw [List.length_append, List.length_singleton] at hi hj
    by_cases e1 : i < vs.length
    · by_cases e2 : j < vs.length
      · rw [el_append_left e1] at h1; rw [el_append_left e2] at h2; exact hf.apart i j b e1 e2 h1 h2
      · have : j = vs.length := by omega
        subst this; rw [el_snoc_last] at h2; cases h2
    · have : i = vs.length := by omega
      subst this; rw [el_snoc_last] at h1; cases h1
/-- keys: each its own -/
def rv (x : Row) : Value := .slice x.1.1 x.2.length x.1.2
def AP (a b : Row) : Prop := ∀ k, (rv a).ownBlock = some k → (rv b).ownBlock ≠ some k
theorem AP.symm {a b : Row} (h : AP a b) : AP b a := fun k h1 h2 => h k h2 h1
structure KOK (h : Array Obj) (lo : Nat) (K : List Row) : Prop where
  own : ∀ x ∈ K, Own h lo 9 1 (rv x) x.2.length (flat enS x.2)
  apart : K.Pairwise AP
theorem KOK.ext {w w' : World} {lo : Nat} {K : List Row} (h : KOK w.heap lo K) (hx : Ext w w') : KOK w'.heap lo K := ⟨fun x hm => (h.own x hm).ext hx, h.apart⟩
theorem KOK.nil (h : Array Obj) (lo : Nat) : KOK h lo [] := ⟨fun _ hx => absurd hx (by simp), List.Pairwise.nil⟩
theorem KOK.weak {h : Array Obj} {lo lo' : Nat} {K : List Row} (hk : KOK h lo K) (hl : lo' ≤ lo) : KOK h lo' K := ⟨fun x hx => (hk.own x hx).weak hl, hk.apart⟩
theorem KOK.snoc {w w' : World} {lo lo2 : Nat} {K : List Row} {x : Row} (h : KOK w.heap lo K) (hx : Ext w w') (hl : lo ≤ lo2) (hl2 : w.heap.size ≤ lo2) (ho : Own w'.heap lo2 9 1 (rv x) x.2.length (flat enS x.2)) : KOK w'.heap lo (K ++ [x]) := by
  refine ⟨fun y hy => ?_, List.pairwise_append.2 ⟨h.apart, List.pairwise_singleton _ _, fun a ha b hb k h1 h2 => ?_⟩⟩
  · rcases List.mem_append.1 hy with hy | hy
    · exact (h.own y hy).ext hx
    · rw [List.mem_singleton] at hy; subst hy; exact ho.weak hl
  · rw [List.mem_singleton] at hb; subst hb
    have := ((h.own a ha).lt h1).2
    have := (ho.lt h2).1
    omega
theorem ins_perm {α : Type} {c : α → α → Int} (x : α) (ys : List α) : (ins c x ys).Perm (x :: ys) := by
  induction ys with
  | nil => exact List.Perm.refl _
  | cons y ys ih =>
    rw [ins]
    split
    · exact List.Perm.refl _
    · exact (List.Perm.cons y ih).trans (List.Perm.swap x y ys)
theorem srt_perm {α : Type} {c : α → α → Int} (xs : List α) : (srt c xs).Perm xs := by
  induction xs using Go.OrdPure.rev_ind with
  | h0 => exact List.Perm.refl _
  | h1 xs x ih => rw [srt_snoc]; exact (ins_perm x _).trans ((List.Perm.cons x ih).trans (List.perm_append_singleton x xs).symm)
theorem KOK.perm {h : Array Obj} {lo : Nat} {K K' : List Row} (hk : KOK h lo K) (hp : K'.Perm K) : KOK h lo K' := ⟨fun x hx => hk.own x (hp.mem_iff.1 hx), (hp.symm.pairwise hk.apart fun h => AP.symm h)⟩
theorem KOK.sub {h : Array Obj} {lo : Nat} {K K' : List Row} (hk : KOK h lo K) (hp : K'.Sublist K) : KOK h lo K' := ⟨fun x hx => hk.own x (hp.subset hx), hk.apart.sublist hp⟩
/-! stability -/
theorem ins_filter {α β : Type} [DecidableEq β] {c : α → α → Int} {f : α → β} (hc : Lawful c) (h0 : ∀ a b, c a b = 0 ↔ f a = f b) (k : β) (x : α) : ∀ (ys : List α), Rise c ys → (ins c x ys).filter (fun a => decide (f a = k)) = ys.filter (fun a => decide (f a = k)) ++ (if f x = k then [x] else [])
  | [], _ => by simp [ins, List.filter_cons]
  | y :: ys, h => by
    obtain ⟨h1, h2⟩ := List.pairwise_cons.1 h
    rw [ins]
    by_cases hlt : c x y < 0
    · rw [if_pos hlt]
      have hno : ∀ z ∈ y :: ys, f x = k → ¬ f z = k := fun z hz e1 e2 => by
        have hz0 : c x z = 0 := (h0 x z).2 (by rw [e1, e2])
        rcases List.mem_cons.1 hz with e | hz
        · subst e; omega
        · have := hc.lt_of_lt_le hlt (h1 z hz); omega
      by_cases e : f x = k
      · have : (y :: ys).filter (fun a => decide (f a = k)) = [] := by
          rw [List.filter_eq_nil_iff]; intro z hz; simpa using hno z hz e
        rw [if_pos e, this, List.filter_cons, if_pos (by simpa using e), this]; rfl
      · rw [if_neg e, List.append_nil, List.filter_cons, if_neg (by simpa using e)]
    · rw [if_neg hlt, List.filter_cons, List.filter_cons (x := y), ins_filter hc h0 k x ys h2]
      split
      · rw [List.cons_append]
      · rfl
theorem srt_filter {α β : Type} [DecidableEq β] {c : α → α → Int} {f : α → β} (hc : Lawful c) (h0 : ∀ a b, c a b = 0 ↔ f a = f b) (k : β) (xs : List α) : (srt c xs).filter (fun a => decide (f a = k)) = xs.filter (fun a => decide (f a = k)) := by
  induction xs using Go.OrdPure.rev_ind with
  | h0 => rfl
  | h1 xs x ih =>
    rw [srt_snoc, ins_filter hc h0 k x _ (srt_rise hc xs), ih, List.filter_append]
    congr 1
    simp only [List.filter_cons, List.filter_nil]
    by_cases e : f x = k <;> simp [e]
end Go.Eng
