/- Texts, tuples of texts, rows of tuples; sets of them. Seat-free. -/
import Derived.Test.YtegpcbckiehleaaDoorOrdPure
import Derived.Test.YtegpcbckiehleaaDoorGK
import Derived.Test.YtegpcbckiehleaaDoorFlt
namespace Go.Eng
open Go.RowKit Go.OrdPure
def enS (x : ByteArray) : List Value := [.string x]
theorem enS_len (x : ByteArray) : (enS x).length = 1 := rfl
theorem flat_onesS {xs : List ByteArray} : (flat enS xs).all (·.oneCell') = true := by
  induction xs with
  | nil => rfl
  | cons x xs ih => simp only [flat, List.flatMap_cons, List.all_append] at *; rw [ih]; rfl
def txt (a b : ByteArray) : Int := if Op.bytesLess a.toList b.toList = true then -1 else if (Op.bytesLess a.toList b.toList || a.toList == b.toList) = false then 1 else 0
def tups : List ByteArray → List ByteArray → Int
  | a :: l, b :: m => if txt a b = 0 then tups l m else txt a b
  | [], [] => 0
  | [], _ :: _ => -1
  | _ :: _, [] => 1
theorem bl_irr (x : List UInt8) : Op.bytesLess x x = false := by
  induction x with
  | nil => rfl
  | cons a x ih => simp [Op.bytesLess, ih]
theorem bl_trans : ∀ x y z : List UInt8, Op.bytesLess x y = true → Op.bytesLess y z = true → Op.bytesLess x z = true
  | _, _, [], _, h2 => by cases ‹List UInt8› <;> simp [Op.bytesLess] at h2
  | [], _, _ :: _, _, _ => rfl
  | a :: x, [], _ :: _, h1, _ => by simp [Op.bytesLess] at h1
  | a :: x, b :: y, d :: z, h1, h2 => by
    simp only [Op.bytesLess, Bool.or_eq_true, decide_eq_true_eq, Bool.and_eq_true, beq_iff_eq, UInt8.lt_iff_toNat_lt] at h1 h2 ⊢
    rcases h1 with h1 | ⟨rfl, h1⟩
    · rcases h2 with h2 | ⟨rfl, h2⟩
      · exact .inl (by omega)
      · exact .inl h1
    · rcases h2 with h2 | ⟨rfl, h2⟩
      · exact .inl h2
      · exact .inr ⟨rfl, bl_trans x y z h1 h2⟩
theorem bl_tri : ∀ x y : List UInt8, Op.bytesLess x y = false → Op.bytesLess y x = false → x = y
  | [], [], _, _ => rfl
  | [], _ :: _, h, _ => by simp [Op.bytesLess] at h
  | _ :: _, [], _, h => by simp [Op.bytesLess] at h
  | a :: x, b :: y, h1, h2 => by
    simp only [Op.bytesLess, Bool.or_eq_false_iff, decide_eq_false_iff_not, Bool.and_eq_false_iff, beq_eq_false_iff_ne, UInt8.lt_iff_toNat_lt] at h1 h2
    have hab : a = b := by apply UInt8.toNat_inj.1; omega
    subst hab
    rw [bl_tri x y (h1.2.resolve_left (fun h => h rfl)) (h2.2.resolve_left (fun h => h rfl))]
theorem txt_cases (a b : ByteArray) : (Op.bytesLess a.toList b.toList = true ∧ txt a b = -1) ∨ (a = b ∧ txt a b = 0) ∨ (Op.bytesLess b.toList a.toList = true ∧ txt a b = 1) := by
  unfold txt
  by_cases h : Op.bytesLess a.toList b.toList = true
  · exact .inl ⟨h, if_pos h⟩
  · rw [if_neg h]
    have h' : Op.bytesLess a.toList b.toList = false := by simpa using h
    by_cases h2 : Op.bytesLess b.toList a.toList = true
    · refine .inr (.inr ⟨h2, if_pos ?_⟩)
      have hne : ¬ a.toList = b.toList := fun e => by rw [e, bl_irr] at h2; cases h2
      simp [h', hne]
    · have e := bl_tri _ _ h' (by simpa using h2)
      exact .inr (.inl ⟨bytes_ext e, if_neg (by simp [e])⟩)
theorem txt_anti (a b : ByteArray) : txt b a = - txt a b := by
  rcases txt_cases a b with ⟨h1, h2⟩ | ⟨h1, h2⟩ | ⟨h1, h2⟩ <;> rcases txt_cases b a with ⟨k1, k2⟩ | ⟨k1, k2⟩ | ⟨k1, k2⟩ <;> rw [h2, k2] <;> try omega
  · have := bl_trans _ _ _ h1 k1; rw [bl_irr] at this; cases this
  · subst k1; rw [bl_irr] at h1; cases h1
  · subst h1; rw [bl_irr] at k1; cases k1
  · subst h1; rw [bl_irr] at k1; cases k1
  · subst k1; rw [bl_irr] at h1; cases h1
  · have := bl_trans _ _ _ h1 k1; rw [bl_irr] at this; cases this
theorem txt_range (a b : ByteArray) : -1 ≤ txt a b ∧ txt a b ≤ 1 := by rcases txt_cases a b with ⟨_, h2⟩ | ⟨_, h2⟩ | ⟨_, h2⟩ <;> omega
theorem txt_zero {a b : ByteArray} (h : txt a b = 0) : a = b := by rcases txt_cases a b with ⟨_, h2⟩ | ⟨h1, _⟩ | ⟨_, h2⟩ <;> first | exact h1 | omega
theorem txt_lt {a b : ByteArray} (h : txt a b < 0) : Op.bytesLess a.toList b.toList = true := by rcases txt_cases a b with ⟨h1, _⟩ | ⟨_, h2⟩ | ⟨_, h2⟩ <;> first | exact h1 | omega
theorem txt_neg {a b : ByteArray} (h : Op.bytesLess a.toList b.toList = true) : txt a b = -1 := if_pos h
theorem tups_range : ∀ l m : List ByteArray, -1 ≤ tups l m ∧ tups l m ≤ 1
  | [], [] => by simp [tups]
  | [], _ :: _ => by simp [tups]
  | _ :: _, [] => by simp [tups]
  | a :: l, b :: m => by
    simp only [tups]
    split
    · exact tups_range l m
    · exact txt_range a b
theorem tups_anti : ∀ l m : List ByteArray, tups m l = - tups l m
  | [], [] => by simp [tups]
  | [], _ :: _ => by simp [tups]
  | _ :: _, [] => by simp [tups]
  | a :: l, b :: m => by
    simp only [tups]
    rw [txt_anti a b]
    by_cases h : txt a b = 0
    · rw [if_pos h, if_pos (by omega)]; exact tups_anti l m
    · rw [if_neg h, if_neg (by omega)]
theorem tups_trans : ∀ l m n : List ByteArray, tups l m ≤ 0 → tups m n ≤ 0 → tups l n ≤ 0
  | [], _, [], _, _ => by simp [tups]
  | [], _, _ :: _, _, _ => by simp [tups]
  | _ :: _, [], _, h, _ => by simp [tups] at h
  | _ :: _, _ :: _, [], _, h => by simp [tups] at h
  | a :: l, b :: m, d :: n, h1, h2 => by
    simp only [tups] at h1 h2 ⊢
    by_cases e1 : txt a b = 0
    · obtain rfl := txt_zero e1
      rw [if_pos e1] at h1
      by_cases e2 : txt a d = 0
      · rw [if_pos e2] at h2 ⊢
        exact tups_trans l m n h1 h2
      · rw [if_neg e2] at h2 ⊢
        exact h2
    · rw [if_neg e1] at h1
      have hab : Op.bytesLess a.toList b.toList = true := txt_lt (by omega)
      have had : Op.bytesLess a.toList d.toList = true := by
        by_cases e2 : txt b d = 0
        · obtain rfl := txt_zero e2
          exact hab
        · rw [if_neg e2] at h2
          exact bl_trans _ _ _ hab (txt_lt (by omega))
      have := txt_neg had
      split
      · omega
      · omega
theorem tups_end (l m : List ByteArray) (k : Nat) (h : l.length ≤ k ∨ m.length ≤ k) : tups (l.drop k) (m.drop k) = if l.length - k < m.length - k then -1 else if m.length - k < l.length - k then 1 else 0 := by
  have e1 := List.length_drop (i := k) (l := l)
  have e2 := List.length_drop (i := k) (l := m)
  generalize l.drop k = x at *
  generalize m.drop k = y at *
  rw [← e1, ← e2]
  have h' : x.length = 0 ∨ y.length = 0 := by omega
  clear e1 e2
  cases x <;> cases y <;> simp [tups] at h' ⊢
theorem tups_step {l m : List ByteArray} {k : Nat} (h1 : k < l.length) (h2 : k < m.length) : tups (l.drop k) (m.drop k) = if txt (el l k) (el m k) = 0 then tups (l.drop (k + 1)) (m.drop (k + 1)) else txt (el l k) (el m k) := by
  rw [drop_el h1, drop_el h2, tups]
theorem txt_self (a : ByteArray) : txt a a = 0 := by have := txt_anti a a; omega
theorem txt_law : Lawful txt := by
  refine ⟨fun a b h => by have := txt_anti a b; omega, fun a b h => by have := txt_anti a b; omega, fun a b d h1 h2 => ?_⟩
  rcases txt_cases a b with ⟨k1, e1⟩ | ⟨rfl, e1⟩ | ⟨_, e1⟩
  · rcases txt_cases b d with ⟨k2, e2⟩ | ⟨rfl, e2⟩ | ⟨_, e2⟩
    · rw [txt_neg (bl_trans _ _ _ k1 k2)]; omega
    · omega
    · omega
  · exact h2
  · omega
theorem tups_law : Lawful tups := ⟨fun a b h => by have := tups_anti a b; omega, fun a b h => by have := tups_anti a b; omega, tups_trans⟩
theorem tups_zero : ∀ {l m : List ByteArray}, tups l m = 0 → l = m
  | [], [], _ => rfl
  | [], _ :: _, h => by simp [tups] at h
  | _ :: _, [], h => by simp [tups] at h
  | a :: l, b :: m, h => by
    simp only [tups] at h
    by_cases e : txt a b = 0
    · rw [if_pos e] at h; rw [txt_zero e, tups_zero h]
    · rw [if_neg e] at h; exact absurd h e
theorem tups_self (l : List ByteArray) : tups l l = 0 := tups_law.refl l
abbrev Tup := List ByteArray
/-- a row: where its texts lie, their room, the texts -/
abbrev Row := (Option Addr × Nat) × Tup
def enR (x : Row) : List Value := [.slice x.1.1 x.2.length x.1.2]
theorem enR_len (x : Row) : (enR x).length = 1 := rfl
theorem flat_onesR {xs : List Row} : (flat enR xs).all (·.oneCell') = true := by
  induction xs with
  | nil => rfl
  | cons x xs ih => simp only [flat, List.flatMap_cons, List.all_append] at *; rw [ih]; rfl
/-- rows hold what they say -/
def RowsP (h : Array Obj) (L : List Row) : Prop := ∀ x ∈ L, Src h (.slice x.1.1 x.2.length x.1.2) x.2.length 1 (flat enS x.2)
def enK (x : Row × Row) : List Value := [.slice x.1.1.1 x.1.2.length x.1.1.2, .slice x.2.1.1 x.2.2.length x.2.1.2]
theorem enK_len (x : Row × Row) : (enK x).length = 2 := rfl
theorem flat_onesK {xs : List (Row × Row)} : (flat enK xs).all (·.oneCell') = true := by
  induction xs with
  | nil => rfl
  | cons x xs ih => simp only [flat, List.flatMap_cons, List.all_append] at *; rw [ih]; rfl
theorem RowsP.at {h : Array Obj} {L : List Row} (hr : RowsP h L) {i : Nat} (hi : i < L.length) : Src h (.slice (el L i).1.1 (el L i).2.length (el L i).1.2) (el L i).2.length 1 (flat enS (el L i).2) := hr _ (by rw [el_eq hi]; exact List.getElem_mem _)
theorem RowsP.below {w w' : World} {L : List Row} (hr : RowsP w.heap L) (h : Ext w w') : RowsP w'.heap L := fun x hx => (hr x hx).below h
/-! sets -/
def ddS {α : Type} [Inhabited α] (c : α → α → Int) (acc : List α) (x : α) : List α := if acc.length = 0 ∨ ¬ c (el acc (acc.length - 1)) x = 0 then acc ++ [x] else acc
def ddL {α : Type} [Inhabited α] (c : α → α → Int) (xs : List α) : List α := xs.foldl (ddS c) []
section
variable {α : Type} [Inhabited α] {c : α → α → Int}
theorem ddL_snoc (xs : List α) (x : α) : ddL c (xs ++ [x]) = ddS c (ddL c xs) x := by simp [ddL]
theorem ddS_len (acc : List α) (x : α) : (ddS c acc x).length ≤ acc.length + 1 := by
  unfold ddS
  split <;> simp
theorem ddL_len (xs : List α) : (ddL c xs).length ≤ xs.length := by
  induction xs using Go.OrdPure.rev_ind with
  | h0 => exact Nat.le_refl _
  | h1 xs x ih =>
    rw [ddL_snoc, List.length_append]
    have := ddS_len (c := c) (ddL c xs) x
    simp only [List.length_singleton]
    omega
theorem ddL_spec (hL : Lawful c) (xs : List α) : Rise c xs → (ddL c xs).Pairwise (fun a b => c a b < 0) ∧ (∀ x ∈ xs, ∃ y ∈ ddL c xs, c y x = 0) ∧ (∀ y ∈ ddL c xs, y ∈ xs) ∧ (∀ y ∈ ddL c xs, ∀ z, (∀ x ∈ xs, c x z ≤ 0) → c y z < 0 ∨ (0 < (ddL c xs).length ∧ c (el (ddL c xs) ((ddL c xs).length - 1)) z = 0)) := by
  induction xs using Go.OrdPure.rev_ind with
  | h0 => intro _; exact ⟨List.Pairwise.nil, by simp, by simp [ddL], by simp [ddL]⟩
  | h1 xs x ih =>
    intro hr
    have hr1 : Rise c xs := (List.pairwise_append.1 hr).1
    have hx : ∀ a ∈ xs, c a x ≤ 0 := fun a ha => (List.pairwise_append.1 hr).2.2 a ha x (by simp)
    obtain ⟨i1, i2, i3, i4⟩ := ih hr1
    rw [ddL_snoc, ddS]
    by_cases hc : (ddL c xs).length = 0 ∨ ¬ c (el (ddL c xs) ((ddL c xs).length - 1)) x = 0
    · rw [if_pos hc]
      have hlt : ∀ y ∈ ddL c xs, c y x < 0 := fun y hy => by
        rcases i4 y hy x hx with h | ⟨h1, h2⟩
        · exact h
        · rcases hc with hc | hc
          · omega
          · exact absurd h2 hc
      refine ⟨List.pairwise_append.2 ⟨i1, List.pairwise_singleton _ _, fun a ha b hb => by rw [List.mem_singleton] at hb; subst hb; exact hlt a ha⟩, fun z hz => ?_, fun y hy => ?_, fun y hy z hz => ?_⟩
      · rcases List.mem_append.1 hz with hz | hz
        · obtain ⟨y, hy, e⟩ := i2 z hz; exact ⟨y, List.mem_append_left _ hy, e⟩
        · rw [List.mem_singleton] at hz; subst hz; exact ⟨z, by simp, hL.refl z⟩
      · rcases List.mem_append.1 hy with hy | hy
        · exact List.mem_append_left _ (i3 y hy)
        · exact List.mem_append_right _ hy
      · have hxz : c x z ≤ 0 := hz x (by simp)
        have elast : el (ddL c xs ++ [x]) ((ddL c xs ++ [x]).length - 1) = x := by
          rw [List.length_append, List.length_singleton, Nat.add_sub_cancel]
          have := el_append_right (xs := ddL c xs) (ys := [x]) (i := 0)
          rw [Nat.add_zero] at this
          rw [this]; rfl
        rw [elast]
        rcases List.mem_append.1 hy with hy | hy
        · exact .inl (hL.lt_of_lt_le (hlt y hy) hxz)
        · rw [List.mem_singleton] at hy; subst hy
          by_cases e : c y z = 0
          · exact .inr ⟨by simp, e⟩
          · exact .inl (by omega)
    · rw [if_neg hc]
      have h0 : 0 < (ddL c xs).length := by omega
      have hl0 : c (el (ddL c xs) ((ddL c xs).length - 1)) x = 0 := Decidable.of_not_not fun e => hc (.inr e)
      have hmem : el (ddL c xs) ((ddL c xs).length - 1) ∈ ddL c xs := by rw [el_eq (by omega)]; exact List.getElem_mem _
      refine ⟨i1, fun z hz => ?_, fun y hy => List.mem_append_left _ (i3 y hy), fun y hy z hz => ?_⟩
      · rcases List.mem_append.1 hz with hz | hz
        · exact i2 z hz
        · rw [List.mem_singleton] at hz; subst hz; exact ⟨_, hmem, hl0⟩
      · exact i4 y hy z fun a ha => hz a (List.mem_append_left _ ha)
end
/-- R is the tuples of P, rising, each once -/
def IsSet (R P : List Tup) : Prop := R.Pairwise (fun a b => tups a b < 0) ∧ ∀ t, t ∈ R ↔ t ∈ P
/-- the only list that rises strictly and has these members -/
theorem strict_uniq {α : Type} {c : α → α → Int} (hL : Lawful c) (hz : ∀ a b, c a b = 0 → a = b) : ∀ {R Q : List α}, R.Pairwise (fun a b => c a b < 0) → Q.Pairwise (fun a b => c a b < 0) → (∀ t, t ∈ R ↔ t ∈ Q) → R = Q
  | [], [], _, _, _ => rfl
  | [], q :: Q, _, _, h => absurd ((h q).2 (by simp)) (by simp)
  | p :: R, [], _, _, h => absurd ((h p).1 (by simp)) (by simp)
  | p :: R, q :: Q, hP, hQ, h => by
    obtain ⟨p1, p2⟩ := List.pairwise_cons.1 hP
    obtain ⟨q1, q2⟩ := List.pairwise_cons.1 hQ
    have irr : ∀ x : α, ¬ c x x < 0 := fun x h => by have := hL.refl x; omega
    have e : p = q := by
      have h1 := (h p).1 (by simp)
      have h2 := (h q).2 (by simp)
      rw [List.mem_cons] at h1 h2
      rcases h1 with h1 | h1
      · exact h1
      · rcases h2 with h2 | h2
        · exact h2.symm
        · have := hL.lt_of_lt_le (q1 p h1) (Int.le_of_lt (p1 q h2)); exact absurd this (irr q)
    subst e
    congr 1
    refine strict_uniq hL hz p2 q2 fun z => ⟨fun hz' => ?_, fun hz' => ?_⟩
    · rcases List.mem_cons.1 ((h z).1 (List.mem_cons_of_mem _ hz')) with e | e
      · subst e; exact absurd (p1 _ hz') (irr _)
      · exact e
    · rcases List.mem_cons.1 ((h z).2 (List.mem_cons_of_mem _ hz')) with e | e
      · subst e; exact absurd (q1 _ hz') (irr _)
      · exact e
theorem IsSet.uniq {R Q P : List Tup} (h1 : IsSet R P) (h2 : IsSet Q P) : R = Q := strict_uniq tups_law (fun _ _ => tups_zero) h1.1 h2.1 fun t => (h1.2 t).trans (h2.2 t).symm
end Go.Eng
namespace Go.Eng
open Go.RowKit Go.OrdPure Go.Flt
theorem Cells.conv {h : Array Obj} {b o : Nat} {v v' : Value} (hc : Cells h b o [v]) (e : v = v') : Cells h b o [v'] := e ▸ hc
theorem x_mkFunc {P : Program} {n : Nat} {σ : Nat → Value} {w : World} {ty : TypeId} {f : Fn} {a b : Array Operand} {v : Value} (hrun : ∀ w, (Instr.makeFunc f (a.map (ev n σ)) (b.map (ev n σ))).run P w = .ok v w) : Ex P (ev n σ) w (.makeFunc f a b) ty v := by
  intro _ _ _ _; simp [execOp, hrun]
def tp (L : List Row) : List Tup := L.map (·.2)
theorem tp_len (L : List Row) : (tp L).length = L.length := by unfold tp; exact List.length_map _
theorem tp_el {L : List Row} {i : Nat} (h : i < L.length) : el (tp L) i = (el L i).2 := by rw [el_eq (by rw [tp_len]; exact h), el_eq h]; simp [tp]
theorem tp_ext {L M : List Row} (hl : L.length = M.length) (h : ∀ i, i < L.length → (el L i).2 = (el M i).2) : tp L = tp M := by
  refine list_ext_el (by rw [tp_len, tp_len, hl]) fun i hi => ?_
  rw [tp_len] at hi
  rw [tp_el hi, tp_el (by omega), h i hi]
/-- equal, or both none -/
def likeB (x y : Nat) : Bool := decide (Flt.D.order x y = some .eq) || (decide (¬ Flt.D.order x x = some .eq) && decide (¬ Flt.D.order y y = some .eq))
/-- the document's order of tuples -/
def ahd : Tup → Tup → Int
  | a :: l, b :: m => if txt a b = 0 then ahd l m else txt a b
  | [], m => -(m.length : Int)
  | l, [] => (l.length : Int)
theorem ahd_sign : ∀ l m : Tup, (ahd l m < 0 ↔ tups l m < 0) ∧ (0 < ahd l m ↔ 0 < tups l m)
  | [], [] => by simp [ahd, tups]
  | [], _ :: _ => by simp [ahd, tups]; omega
  | _ :: _, [] => by simp [ahd, tups]; omega
  | a :: l, b :: m => by
    simp only [ahd, tups]
    split
    · exact ahd_sign l m
    · exact ⟨Iff.rfl, Iff.rfl⟩
theorem ahd_zero {l m : Tup} : ahd l m = 0 ↔ l = m := by
  have := ahd_sign l m
  constructor
  · intro h; exact tups_zero (by omega)
  · rintro rfl; have := tups_self l; omega
theorem ahd_end (l m : Tup) (k : Nat) (h : l.length ≤ k ∨ m.length ≤ k) (hl : k ≤ l.length) (hm : k ≤ m.length) : ahd (l.drop k) (m.drop k) = (l.length : Int) - (m.length : Int) := by
  have e1 := List.length_drop (i := k) (l := l)
  have e2 := List.length_drop (i := k) (l := m)
  have h' : l.length - k = 0 ∨ m.length - k = 0 := by omega
  rw [← e1, ← e2] at h'
  cases h1 : l.drop k with
  | nil => rw [h1] at e1; simp only [ahd]; rw [e2]; simp only [List.length_nil] at e1; omega
  | cons a l' =>
    cases h2 : m.drop k with
    | nil => rw [h1] at e1; rw [h2] at e2; simp only [ahd]; simp only [List.length_nil, List.length_cons] at *; omega
    | cons b m' => rw [h1, h2] at h'; simp at h'
theorem ahd_step {l m : Tup} {k : Nat} (h1 : k < l.length) (h2 : k < m.length) : ahd (l.drop k) (m.drop k) = if txt (el l k) (el m k) = 0 then ahd (l.drop (k + 1)) (m.drop (k + 1)) else txt (el l k) (el m k) := by
  rw [drop_el h1, drop_el h2, ahd]
/-- right relations, their columns -/
def RightR (ar : Int) (P : List Tup) : Prop := (∀ t ∈ P, (t.length : Int) = ar) ∧ 0 ≤ ar ∧ ar ≤ 16
instance (ar : Int) (P : List Tup) : Decidable (RightR ar P) := inferInstanceAs (Decidable (_ ∧ _))
def badC (ar c : Int) : Bool := decide (c < 0 ∨ ar ≤ c)
def ColsOK (ar : Int) (l : List Int) : Prop := ∀ i, i < l.length → badC ar (el l i) = false ∧ ∀ k, k < i → el l k ≠ el l i
instance (ar : Int) (l : List Int) : Decidable (ColsOK ar l) := inferInstanceAs (Decidable (∀ i, i < l.length → _))
def cutL (t : Tup) (l : List Int) : Tup := l.map fun c => el t c.toNat
theorem cutL_len (t : Tup) (l : List Int) : (cutL t l).length = l.length := by unfold cutL; exact List.length_map _
theorem cutL_snoc (t : Tup) (l : List Int) (c : Int) : cutL t (l ++ [c]) = cutL t l ++ [el t c.toNat] := by simp [cutL]
theorem el_tp_mem {L : List Row} {i : Nat} (h : i < L.length) : (el L i).2 ∈ tp L := by rw [← tp_el h, el_eq (by rw [tp_len]; exact h)]; exact List.getElem_mem _
theorem tp_all {L : List Row} {p : Tup → Prop} (h : ∀ i, i < L.length → p (el L i).2) : ∀ t ∈ tp L, p t := by
  intro t ht
  obtain ⟨i, hi, rfl⟩ := List.getElem_of_mem ht
  rw [tp_len] at hi
  have := h i hi
  rwa [← tp_el hi, el_eq (by rw [tp_len]; exact hi)] at this
theorem txt_of {a b : ByteArray} (h : ¬ Op.bytesLess a.toList b.toList = true) (h2 : ¬ (Op.bytesLess a.toList b.toList || a.toList == b.toList) = false) : txt a b = 0 := by unfold txt; rw [if_neg h, if_neg h2]
end Go.Eng
