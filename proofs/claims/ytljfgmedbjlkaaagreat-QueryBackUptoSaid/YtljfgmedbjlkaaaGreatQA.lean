/- Plain law of the question's text: bytes, words, kinds. -/
import Derived.Test.YtljfgmedbjlkaaaGreatSNum
import Derived.Test.YtljfgmedbjlkaaaGreatV3
import Derived.Test.YtljfgmedbjlkaaaGreatV8
namespace Go.QP
open Go.Eng
abbrev Sm (c : Nat) : Prop := 97 ≤ c ∧ c ≤ 122
abbrev Gr (c : Nat) : Prop := 65 ≤ c ∧ c ≤ 90
abbrev Dg (c : Nat) : Prop := 48 ≤ c ∧ c ≤ 57
/-- a byte of a word -/
abbrev Lt (c : Nat) : Prop := (97 ≤ c ∧ c ≤ 122) ∨ (65 ≤ c ∧ c ≤ 90) ∨ (48 ≤ c ∧ c ≤ 57) ∨ c = 95
abbrev INPUT : ByteArray := ByteArray.mk #[105, 110, 112, 117, 116]
abbrev OUTPUT : ByteArray := ByteArray.mk #[111, 117, 116, 112, 117, 116]
abbrev NOT : ByteArray := ByteArray.mk #[110, 111, 116]
/-- a reserved word -/
abbrev Rsv (s : ByteArray) : Prop := s.toList = INPUT.toList ∨ s.toList = OUTPUT.toList ∨ s.toList = NOT.toList
/-- all bytes are bytes of a word -/
def AllW (s : ByteArray) : Prop := ∀ j, j < s.size → Lt (ch s j)
instance (s : ByteArray) : Decidable (AllW s) := inferInstanceAs (Decidable (∀ j, j < s.size → _))
/-- none is greater than a digit -/
def AllD (s : ByteArray) : Prop := ∀ j, j < s.size → ch s j ≤ 57
instance (s : ByteArray) : Decidable (AllD s) := inferInstanceAs (Decidable (∀ j, j < s.size → _))
/-- the kind of a word; 0: it is none -/
def kind (s : ByteArray) : Nat :=
  if s.size < 1 ∨ 64 < s.size then 0
  else if ¬ AllW s then 0
  else if Dg (ch s 0) then (if AllD s then 3 else 0)
  else if Gr (ch s 0) then 2
  else if ch s 0 = 95 then 0
  else if s.toList = INPUT.toList then 5
  else if s.toList = OUTPUT.toList then 6
  else if s.toList = NOT.toList then 7
  else 1
theorem kind_len {s : ByteArray} (h : s.size < 1 ∨ 64 < s.size) : kind s = 0 := by unfold kind; rw [if_pos h]
theorem kind_w {s : ByteArray} {i : Nat} (hi : i < s.size) (h : ¬ Lt (ch s i)) : kind s = 0 := by
  unfold kind
  have : ¬ AllW s := fun hw => h (hw i hi)
  split
  · rfl
  · first | rfl | rw [if_pos this]
theorem kind_of {s : ByteArray} (h1 : 1 ≤ s.size) (h2 : s.size ≤ 64) (hw : ∀ j, j < s.size → Lt (ch s j)) : kind s = if Dg (ch s 0) then (if AllD s then 3 else 0) else if Gr (ch s 0) then 2 else if ch s 0 = 95 then 0
    else if s.toList = INPUT.toList then 5 else if s.toList = OUTPUT.toList then 6 else if s.toList = NOT.toList then 7 else 1 := by
  have : AllW s := hw
  unfold kind
  rw [if_neg (by omega), if_neg (not_not_intro this)]
/-- a word of the document: small at its beginning, or great -/
def WordD (s : ByteArray) (low : Bool) : Prop := 1 ≤ s.size ∧ s.size ≤ 64 ∧ (if low then Sm (ch s 0) else Gr (ch s 0)) ∧ ∀ j, j < s.size → 1 ≤ j → Lt (ch s j)
instance (s : ByteArray) (b : Bool) : Decidable (WordD s b) := by unfold WordD; exact inferInstance
/-- a constant that stands without quotes -/
def Bare (s : ByteArray) : Prop := kind s = 1 ∨ kind s = 3
instance (s : ByteArray) : Decidable (Bare s) := inferInstanceAs (Decidable (_ ∨ _))
/-- a name of the document that is not reserved -/
def NameD (s : ByteArray) : Prop := WordD s true ∧ ¬ Rsv s
instance (s : ByteArray) : Decidable (NameD s) := inferInstanceAs (Decidable (_ ∧ _))
theorem dq {p q : Prop} [Decidable p] [Decidable q] (h : p ↔ q) : (Value.bool (decide p)) = .bool (decide q) := by
  congr 1
  exact decide_eq_decide.2 h
theorem dT {p : Prop} [Decidable p] (h : p) : (Value.bool true) = .bool (decide p) := by rw [decide_eq_true h]
theorem dF {p : Prop} [Decidable p] (h : ¬ p) : (Value.bool false) = .bool (decide p) := by rw [decide_eq_false h]
end Go.QP
namespace Go.QP
open Go.Eng
theorem allW_of {s : ByteArray} (h0 : Lt (ch s 0)) (h : ∀ j, j < s.size → 1 ≤ j → Lt (ch s j)) : ∀ j, j < s.size → Lt (ch s j) := by
  intro j hj
  rcases Nat.eq_zero_or_pos j with rfl | hp
  · exact h0
  · exact h j hj hp
theorem kind_pos {s : ByteArray} (h : kind s ≠ 0) : 1 ≤ s.size ∧ s.size ≤ 64 ∧ ∀ j, j < s.size → Lt (ch s j) := by
  by_cases h1 : s.size < 1 ∨ 64 < s.size
  · exact absurd (kind_len h1) h
  · refine ⟨by omega, by omega, fun j hj => Decidable.of_not_not fun hn => h (kind_w hj hn)⟩
theorem kind_name (s : ByteArray) : kind s = 1 ↔ NameD s := by
  constructor
  · intro hk
    obtain ⟨h1, h2, h3⟩ := kind_pos (s := s) (by rw [hk]; decide)
    have h0 := h3 0 (by omega)
    rw [kind_of h1 h2 h3] at hk
    split at hk
    · split at hk <;> cases hk
    split at hk
    · cases hk
    split at hk
    · cases hk
    split at hk
    · cases hk
    split at hk
    · cases hk
    split at hk
    · cases hk
    rename_i a b c d e f
    refine ⟨⟨h1, h2, ?_, fun j hj _ => h3 j hj⟩, fun hr => ?_⟩
    · show Sm (ch s 0)
      omega
    · rcases hr with hr | hr | hr
      · exact d hr
      · exact e hr
      · exact f hr
  · rintro ⟨⟨h1, h2, h3, h4⟩, hr⟩
    have h3 : Sm (ch s 0) := h3
    rw [kind_of h1 h2 (allW_of (.inl h3) h4), if_neg (by omega), if_neg (by omega), if_neg (by omega), if_neg fun h => hr (.inl h), if_neg fun h => hr (.inr (.inl h)), if_neg fun h => hr (.inr (.inr h))]
theorem kind_var (s : ByteArray) : kind s = 2 ↔ WordD s false := by
  constructor
  · intro hk
    obtain ⟨h1, h2, h3⟩ := kind_pos (s := s) (by rw [hk]; decide)
    rw [kind_of h1 h2 h3] at hk
    split at hk
    · split at hk <;> cases hk
    split at hk
    · rename_i hg
      exact ⟨h1, h2, hg, fun j hj _ => h3 j hj⟩
    split at hk
    · cases hk
    split at hk
    · cases hk
    split at hk
    · cases hk
    split at hk <;> cases hk
  · rintro ⟨h1, h2, h3, h4⟩
    have h3 : Gr (ch s 0) := h3
    rw [kind_of h1 h2 (allW_of (.inr (.inl h3)) h4), if_neg (by omega), if_pos h3]
end Go.QP
namespace Go.QP
open Go.Eng
/-- a token -/
structure Tk where
  k : Nat
  s : ByteArray
  i : Nat
  j : Nat
instance : Inhabited Tk := ⟨⟨0, ByteArray.empty, 0, 0⟩⟩
abbrev Tk0 : Tk := ⟨0, ByteArray.empty, 0, 0⟩
abbrev eK : En Tk := ⟨fun t => [.int .i64 ((t.k : Nat) : Int), .string t.s, .int .i64 ((t.i : Nat) : Int), .int .i64 ((t.j : Nat) : Int)], 4, fun _ => rfl, by decide, fun _ => rfl⟩
/-- the place behind blanks and remarks -/
def blankP : List Nat → Bool → Nat → Nat
  | [], _, i => i
  | c :: l, true, i => blankP l (decide (c ≠ 10)) (i + 1)
  | c :: l, false, i => if c = 37 then blankP l true (i + 1) else if c ≠ 32 ∧ c ≠ 9 ∧ c ≠ 10 ∧ c ≠ 13 then i else blankP l false (i + 1)
/-- what a digit of two says -/
def hx (c : Nat) : Int := if Dg c then (c : Int) - 48 else if 97 ≤ c ∧ c ≤ 102 then (c : Int) - 87 else -1
/-- a string from behind its first quote: its bytes, the place where it goes no further, whether it is whole -/
def quotedP : List Nat → List Nat → Nat → List Nat × Nat × Bool
  | [], _, i => ([], i, false)
  | c :: l, b, i =>
    if c = 34 then (b, i + 1, true)
    else if b.length = 1024 ∨ c < 32 ∨ 126 < c then ([], i, false)
    else if c = 92 then
      match l with
      | [] => ([], i + 1, false)
      | d :: l1 =>
        if d = 34 ∨ d = 92 then quotedP l1 (b ++ [d]) (i + 2)
        else if d = 110 then quotedP l1 (b ++ [10]) (i + 2)
        else if d = 116 then quotedP l1 (b ++ [9]) (i + 2)
        else if d = 120 then
          match l1 with
          | [] => ([], i + 2, false)
          | e :: l2 =>
            if hx e < 0 then ([], i + 2, false)
            else
              match l2 with
              | [] => ([], i + 3, false)
              | f :: l3 => if hx f < 0 then ([], i + 3, false) else quotedP l3 (b ++ [((hx e) * 16 + hx f).toNat]) (i + 4)
        else ([], i + 1, false)
    else quotedP l (b ++ [c]) (i + 1)
/-- behind the first digit's place -/
def firstP (l b : List Nat) (i : Nat) : List Nat × Nat × Bool :=
  match l with
  | [] => ([], i, false)
  | e :: l2 =>
    if hx e < 0 then ([], i, false)
    else
      match l2 with
      | [] => ([], i + 1, false)
      | f :: l3 => if hx f < 0 then ([], i + 1, false) else quotedP l3 (b ++ [((hx e) * 16 + hx f).toNat]) (i + 2)
theorem firstP_1 (e : Nat) (b : List Nat) (i : Nat) : firstP [e] b i = if hx e < 0 then ([], i, false) else ([], i + 1, false) := rfl
theorem firstP_2 (e f : Nat) (l b : List Nat) (i : Nat) : firstP (e :: f :: l) b i = if hx e < 0 then ([], i, false) else if hx f < 0 then ([], i + 1, false) else quotedP l (b ++ [((hx e) * 16 + hx f).toNat]) (i + 2) := rfl
theorem firstP_n {e : Nat} {l b : List Nat} {i : Nat} (h : hx e < 0) : firstP (e :: l) b i = ([], i, false) := by
  show (if hx e < 0 then _ else _) = _
  rw [if_pos h]
/-- behind a slash -/
def slashP (l b : List Nat) (i : Nat) : List Nat × Nat × Bool :=
  match l with
  | [] => ([], i, false)
  | d :: l1 =>
    if d = 34 ∨ d = 92 then quotedP l1 (b ++ [d]) (i + 1)
    else if d = 110 then quotedP l1 (b ++ [10]) (i + 1)
    else if d = 116 then quotedP l1 (b ++ [9]) (i + 1)
    else if d = 120 then firstP l1 b (i + 1)
    else ([], i, false)
theorem quotedP_nil (b : List Nat) (i : Nat) : quotedP [] b i = ([], i, false) := by rw [quotedP.eq_def]
theorem quotedP_cons (c : Nat) (l b : List Nat) (i : Nat) : quotedP (c :: l) b i =
    if c = 34 then (b, i + 1, true)
    else if b.length = 1024 ∨ c < 32 ∨ 126 < c then ([], i, false)
    else if c = 92 then slashP l b (i + 1)
    else quotedP l (b ++ [c]) (i + 1) := by
  rw [quotedP.eq_def]
  rfl
/-- a sign of one byte, by its kind -/
def sign1 (c : Nat) : Nat := if c = 40 then 8 else if c = 41 then 9 else if c = 44 then 10 else if c = 46 then 11 else if c = 47 then 12 else 0
/-- how many bytes a word has -/
def wordN (num : Bool) : Nat → List Nat → Nat
  | 0, _ => 0
  | _, [] => 0
  | n + 1, c :: l => if Go.QP.Lt c ∧ (num = true → c ≤ 57) then 1 + wordN num n l else 0
/-- a word that begins there -/
def wordT (l : List Nat) (i : Nat) : Tk × Bool :=
  let s := sN (l.take (wordN (decide (Dg (l.headD 0))) 64 l))
  if kind s = 0 then (Tk0, false) else (⟨kind s, if Rsv s then ByteArray.empty else s, i, i + s.size⟩, true)
/-- the token that begins there -/
def nextP (l : List Nat) (i : Nat) : Tk × Bool :=
  match l with
  | [] => (Tk0, false)
  | c :: r =>
    if c = 34 then (⟨4, sN (quotedP r [] (i + 1)).1, i, (quotedP r [] (i + 1)).2.1⟩, (quotedP r [] (i + 1)).2.2)
    else if sign1 c ≠ 0 then (⟨sign1 c, ByteArray.empty, i, i + 1⟩, true)
    else if c = 58 then (if r.head? = some 45 then (⟨13, ByteArray.empty, i, i + 2⟩, true) else (⟨13, ByteArray.empty, i, i + 1⟩, false))
    else if c = 33 then (if r.head? = some 61 then (⟨14, ByteArray.empty, i, i + 2⟩, true) else (⟨14, ByteArray.empty, i, i + 1⟩, false))
    else wordT (c :: r) i
/-- is a kind a word's? -/
abbrev WordK (k : Nat) : Prop := 0 < k ∧ k < 8 ∧ k ≠ 4
/-- the tokens from a place on, the open one, the place where it goes no further -/
def toksP : Nat → List Nat → Nat → Int → List Tk × Tk × Nat
  | 0, _, i, _ => ([], Tk0, i)
  | n + 1, l, i, joint =>
    if l = [] then ([], Tk0, i)
    else
      let r := nextP l i
      if WordK r.1.k ∧ joint = (i : Int) then ([], Tk0, i)
      else if r.2 = false then (if r.1.k = 0 then ([], r.1, i) else ([], r.1, r.1.j))
      else
        let l1 := l.drop (r.1.j - i)
        let p := blankP l1 false r.1.j
        let q := toksP n (l1.drop (p - r.1.j)) p (if WordK r.1.k then (r.1.j : Int) else -1)
        (r.1 :: q.1, q.2)
/-- a text's tokens -/
def toksOf (t : ByteArray) : List Tk × Tk × Nat :=
  toksP (t.size + 1) ((bl t).drop (blankP (bl t) false 0)) (blankP (bl t) false 0) (-1)
end Go.QP
namespace Go.QP
open Go.Eng
abbrev Tm := Bool × ByteArray
abbrev Tm0 : Tm := (false, ByteArray.empty)
/-- a literal -/
structure Qlit where
  kind : Int
  pred : ByteArray
  args : List Tm
  left : Tm
  right : Tm
abbrev Qlit0 : Qlit := ⟨0, ByteArray.empty, [], Tm0, Tm0⟩
instance : Inhabited Qlit := ⟨Qlit0⟩
/-- a reader: the literals, what may come next, the literal under way -/
structure RS where
  q : List Qlit
  at_ : Nat
  now : Qlit
abbrev RS0 : RS := ⟨[], 0, Qlit0⟩
/-- a token as a term -/
def termT (k : Nat) (s : ByteArray) : Option Tm := if k = 2 then some (true, s) else if k = 1 ∨ k = 3 ∨ k = 4 then some (false, s) else none
def doneS (r : RS) : RS := ⟨r.q ++ [r.now], 8, Qlit0⟩
/-- the literal ends here, if it can -/
def endsS (r : RS) : RS := if r.at_ = 2 then doneS { r with now := { r.now with kind := 1 } } else if r.at_ = 3 then doneS r else r
/-- a token is taken -/
def takeS (r : RS) (k : Nat) (s : ByteArray) : Option RS :=
  if r.at_ = 0 then
    if k = 7 then some { r with at_ := 1, now := { r.now with kind := 2 } }
    else if k = 1 then some { r with at_ := 2, now := { r.now with pred := s } }
    else (termT k s).map fun x => { r with at_ := 6, now := ⟨3, ByteArray.empty, [], x, Tm0⟩ }
  else if r.at_ = 1 then
    if k = 1 then some { r with at_ := 3, now := { r.now with pred := s } } else none
  else if r.at_ = 2 ∨ r.at_ = 3 then
    if k = 8 then some { r with at_ := 4, now := { r.now with kind := if r.at_ = 2 then 1 else r.now.kind } }
    else if k = 14 ∧ r.at_ = 2 then some { r with at_ := 7, now := ⟨3, ByteArray.empty, [], (false, r.now.pred), Tm0⟩ }
    else if k = 10 ∧ r.q.length + 1 < 256 then some { endsS r with at_ := 0 }
    else none
  else if r.at_ = 4 then
    (termT k s).map fun x => { r with at_ := 5, now := { r.now with args := r.now.args ++ [x] } }
  else if r.at_ = 5 then
    if k = 10 ∧ r.now.args.length < 16 then some { r with at_ := 4 }
    else if k = 9 then some (doneS r)
    else none
  else if r.at_ = 6 then
    if k = 14 then some { r with at_ := 7 } else none
  else if r.at_ = 7 then
    (termT k s).map fun x => doneS { r with now := { r.now with right := x } }
  else
    if k = 10 ∧ r.q.length < 256 then some { r with at_ := 0 } else none
/-- tokens are taken one by one: the reader, or the token that can't stand there beside it -/
def takesS (r : RS) : List Tk → RS × Option Tk
  | [] => (r, none)
  | t :: l => match takeS r t.k t.s with
    | some r1 => takesS r1 l
    | none => (r, some t)
/-- may a name stand here, or a text? -/
def wantsS (a k : Nat) : Prop := a = 0 ∨ a = 4 ∨ a = 7 ∨ (a = 1 ∧ k ≠ 4)
instance (a k : Nat) : Decidable (wantsS a k) := inferInstanceAs (Decidable (_ ∨ _))
/-- a question of a text: its literals and 0, or the offset -/
def parseS (t : ByteArray) : Option (List Qlit) × Nat :=
  let x := toksOf t
  let y := takesS RS0 x.1
  match y.2 with
  | some t => if (t.k = 5 ∨ t.k = 6 ∨ t.k = 7) ∧ wantsS y.1.at_ 1 then (none, t.j) else (none, t.i)
  | none =>
    if (x.2.1.k = 4 ∧ ¬ wantsS y.1.at_ 4) ∨ x.2.1.k = 13 ∨ (x.2.1.k = 14 ∧ y.1.at_ ≠ 2 ∧ y.1.at_ ≠ 6) then (none, x.2.1.i)
    else if x.2.1.k ≠ 0 ∨ t.size ≤ x.2.2 ∨ ch t x.2.2 ≠ 63 ∨ (endsS y.1).at_ ≠ 8 then (none, x.2.2)
    else
      let p := blankP ((bl t).drop (x.2.2 + 1)) false (x.2.2 + 1)
      if p < t.size then (none, p) else (some (endsS y.1).q, 0)
end Go.QP
namespace Go.QP
open Go.Eng
abbrev hexS : ByteArray := ByteArray.mk #[48, 49, 50, 51, 52, 53, 54, 55, 56, 57, 97, 98, 99, 100, 101, 102]
def pieceL (x : Nat) : List Nat := if x = 34 ∨ x = 92 then [92, x] else if x = 10 then [92, 110] else if x = 9 then [92, 116] else if 32 ≤ x ∧ x ≤ 126 then [x] else [92, 120, ch hexS (x / 2 ^ 4), ch hexS (x % 16)]
theorem pieceL_len (x : Nat) : (pieceL x).length ≤ 4 := by unfold pieceL; (repeat' split) <;> simp
def quoteL (l : List Nat) : List Nat := 34 :: l.flatMap pieceL ++ [34]
theorem quote_step {l ys : List Nat} {i : Nat} (hy : ys = 34 :: (l.take i).flatMap pieceL) (hi : i < l.length) : ys ++ pieceL (el l i) = 34 :: (l.take (i + 1)).flatMap pieceL := by
  rw [hy, List.take_succ_eq_append_getElem hi, List.flatMap_append, el_eq hi]; simp
theorem hex_lt {i : Nat} (h : i < 16) : ch hexS i < 128 := by
  have : ∀ i, i < 16 → ch hexS i < 128 := by decide +kernel
  exact this i h
theorem piece1 {x : Nat} (h : x = 34 ∨ x = 92) : pieceL x = [92, x] := if_pos h
theorem piece2 {x : Nat} (h : x = 10) : pieceL x = [92, 110] := by subst h; rfl
theorem piece3 {x : Nat} (h : x = 9) : pieceL x = [92, 116] := by subst h; rfl
theorem piece4 {x : Nat} (h1 : x ≠ 34) (h2 : x ≠ 92) (h3 : 32 ≤ x) (h4 : x ≤ 126) : pieceL x = [x] := by
  unfold pieceL
  rw [if_neg (by omega), if_neg (by omega), if_neg (by omega), if_pos (by omega)]
theorem piece5 {x : Nat} (h1 : x ≠ 34) (h2 : x ≠ 92) (h3 : x ≠ 10) (h4 : x ≠ 9) (h5 : ¬ (32 ≤ x ∧ x ≤ 126)) : pieceL x = [92, 120, ch hexS (x / 2 ^ 4), ch hexS (x % 16)] := by
  unfold pieceL
  rw [if_neg (by omega), if_neg h3, if_neg h4, if_neg h5]
theorem bl_sN {l : List Nat} (h : ∀ x ∈ l, x < 256) : bl (sN l) = l := by
  unfold bl sN
  rw [strOfNums_data]
  simp only [List.map_map]
  conv => rhs; rw [← List.map_id l]
  refine List.map_congr_left fun x hx => ?_
  have := h x hx
  simp only [Function.comp, Int.toNat_natCast, id]
  rw [UInt8.toNat_ofNat']
  exact Nat.mod_eq_of_lt this
theorem bl_lt {s : ByteArray} : ∀ x ∈ bl s, x < 256 := by
  intro x hx
  unfold bl at hx
  obtain ⟨u, _, rfl⟩ := List.mem_map.1 hx
  exact u.toNat_lt
theorem pieceL_lt {x : Nat} (h : x < 256) : ∀ y ∈ pieceL x, y < 256 := by
  intro y hy
  have h1 := hex_lt (i := x / 2 ^ 4) (by omega)
  have h2 := hex_lt (i := x % 16) (by omega)
  unfold pieceL at hy
  split at hy
  · simp only [List.mem_cons, List.not_mem_nil, or_false] at hy; omega
  split at hy
  · simp only [List.mem_cons, List.not_mem_nil, or_false] at hy; omega
  split at hy
  · simp only [List.mem_cons, List.not_mem_nil, or_false] at hy; omega
  split at hy
  · simp only [List.mem_cons, List.not_mem_nil, or_false] at hy; omega
  · simp only [List.mem_cons, List.not_mem_nil, or_false] at hy
    rcases hy with rfl | rfl | rfl | rfl
    · decide
    · decide
    · exact Nat.lt_trans h1 (by decide)
    · exact Nat.lt_trans h2 (by decide)
theorem quote_lt (s : ByteArray) : ∀ x ∈ quoteL (bl s), x < 256 := by
  intro x hx
  unfold quoteL at hx
  simp only [List.cons_append, List.mem_cons, List.mem_append, List.mem_flatMap, List.not_mem_nil, or_false] at hx
  rcases hx with rfl | ⟨y, hy, hx⟩ | rfl
  · decide
  · exact pieceL_lt (bl_lt y hy) x hx
  · decide
theorem piece5s {x : Nat} (hx : x < 256) (a : ByteArray) (ha : bl a = [92, 120]) : bl (a ++ sN [ch hexS (x / 2 ^ 4)] ++ sN [ch hexS (x % 16)]) = [92, 120, ch hexS (x / 2 ^ 4), ch hexS (x % 16)] := by
  have h1 := hex_lt (i := x / 2 ^ 4) (by omega)
  have h2 := hex_lt (i := x % 16) (by omega)
  rw [bl_append, bl_append, ha, bl_sN (fun y hy => by rw [List.mem_singleton.1 hy]; exact Nat.lt_trans h1 (by decide)), bl_sN (fun y hy => by rw [List.mem_singleton.1 hy]; exact Nat.lt_trans h2 (by decide))]; rfl
section
variable {s : ByteArray} {ys : List Nat} {i m : Nat}
def QI (s : ByteArray) (i m : Nat) (ys : List Nat) : Prop := i ≤ s.size ∧ m ≤ 1 + 4 * i ∧ ys = 34 :: ((bl s).take i).flatMap pieceL
theorem QI.step (h : QI s i m ys) (hi : i < s.size) {k : Nat} (hk : k ≤ 4) {zs : List Nat} (hz : zs = ys ++ pieceL (el (bl s) i)) : QI s (i + 1) (m + k) zs := by
  obtain ⟨h1, h2, h3⟩ := h
  exact ⟨by omega, by omega, hz.trans (quote_step h3 (by rw [bl_len]; exact hi))⟩
theorem QI.fin (h : QI s i m ys) (hi : ¬ i < s.size) : ys ++ [34] = quoteL (bl s) := by
  obtain ⟨h1, h2, h3⟩ := h
  rw [h3, List.take_of_length_le (by rw [bl_len]; omega)]; rfl
end
theorem el_bl_lt (s : ByteArray) (i : Nat) : el (bl s) i < 256 := by
  by_cases h : i < (bl s).length
  · rw [el_eq h]; exact bl_lt _ (List.getElem_mem h)
  · unfold el
    rw [List.getD_eq_getElem?_getD, List.getElem?_eq_none (by omega)]
    show (0 : Nat) < 256
    decide
theorem piece5z {x y : Nat} : (ByteArray.mk #[92, 120] ++ sN [x] ++ sN [y]).size ≤ 4 := by rw [ByteArray.size_append, ByteArray.size_append, sN_size, sN_size]; exact Nat.le_refl 4
end Go.QP
namespace Go.QP
open Go.Eng
theorem sN_bl (s : ByteArray) : sN (bl s) = s := by
  apply ByteArray.ext
  apply Array.ext'
  unfold sN bl
  rw [strOfNums_data]
  simp only [List.map_map]
  conv => rhs; rw [← List.map_id s.data.toList]
  refine List.map_congr_left fun x _ => ?_
  simp [Function.comp]
theorem sN_nil : sN [] = ByteArray.empty := by
  apply ByteArray.ext; apply Array.ext'; unfold sN; rw [strOfNums_data]; rfl
/-- blanks and remarks -/
def BlankL (b : List Nat) : Prop := ∀ r i, blankP (b ++ r) false i = blankP r false (i + b.length)
theorem BlankL.nil : BlankL [] := fun _ _ => rfl
theorem BlankL.app {a b : List Nat} (ha : BlankL a) (hb : BlankL b) : BlankL (a ++ b) := fun r i => by
  rw [List.append_assoc, ha, hb, List.length_append, Nat.add_assoc]
theorem BlankL.one {c : Nat} (h : c = 32 ∨ c = 9 ∨ c = 10 ∨ c = 13) : BlankL [c] := fun r i => by
  rw [List.cons_append, blankP, if_neg (by omega), if_neg (by omega)]; rfl
theorem BlankL.rem : BlankL [37, 63, 40, 0, 46, 10] := fun r i => by
  simp [blankP]
/-- no blank stands first -/
def NoB (l : List Nat) : Prop := ∀ i, blankP l false i = i
theorem NoB.nil : NoB [] := fun _ => rfl
theorem NoB.cons {c : Nat} {l : List Nat} (h : c ≠ 37 ∧ c ≠ 32 ∧ c ≠ 9 ∧ c ≠ 10 ∧ c ≠ 13) : NoB (c :: l) := fun i => by
  rw [blankP, if_neg h.1, if_pos h.2]
/-- bytes are cut into tokens, up to a place; w: a word may end at the place -/
def Lx (w : Bool) (l : List Nat) (ks : List (Nat × ByteArray)) (w' : Bool) (l' : List Nat) : Prop :=
  ∀ (i : Nat) (jt : Int), (w = false → jt ≠ (i : Int)) → ∃ ts i' jt', ts.length + l'.length ≤ l.length ∧ i' + l'.length = i + l.length ∧ (w' = false → jt' ≠ ((i' : Nat) : Int)) ∧ ts.map (fun t => (t.k, t.s)) = ks ∧
    ∀ n, toksP (n + ts.length) l i jt = (ts ++ (toksP n l' i' jt').1, (toksP n l' i' jt').2)
theorem Lx.refl (w : Bool) (l : List Nat) : Lx w l [] w l := fun i jt h => ⟨[], i, jt, by simp, rfl, h, rfl, fun _ => rfl⟩
theorem Lx.trans {w w' w'' : Bool} {l l' l'' : List Nat} {ks ks' : List (Nat × ByteArray)} (h : Lx w l ks w' l') (h' : Lx w' l' ks' w'' l'') : Lx w l (ks ++ ks') w'' l'' := by
  intro i jt hj
  obtain ⟨ts, i1, j1, a1, a2, a3, a4, a5⟩ := h i jt hj
  obtain ⟨ts', i2, j2, b1, b2, b3, b4, b5⟩ := h' i1 j1 a3
  refine ⟨ts ++ ts', i2, j2, by rw [List.length_append]; omega, by omega, b3, by rw [List.map_append, a4, b4], fun n => ?_⟩
  have h1 := a5 (n + ts'.length)
  rw [List.length_append, Nat.add_comm ts.length, ← Nat.add_assoc, h1, b5 n, List.append_assoc]
/-- one token, blanks behind it -/
theorem Lx.tok {w w' : Bool} {l m b l' : List Nat} {k : Nat} {s : ByteArray} (hl : l = m ++ b ++ l') (hm : 0 < m.length) (hn : ∀ i, nextP l i = (⟨k, s, i, i + m.length⟩, true)) (hw : w = true → ¬ WordK k) (hb : BlankL b) (h' : NoB l') (hw' : w' = false → ¬ (WordK k ∧ b = [])) : Lx w l [(k, s)] w' l' := by
  intro i jt hj
  have hne : l ≠ [] := by rintro rfl; have := congrArg List.length hl; simp only [List.length_append, List.length_nil] at this; omega
  refine ⟨[⟨k, s, i, i + m.length⟩], i + m.length + b.length, if WordK k then ((i + m.length : Nat) : Int) else -1, by rw [hl]; simp only [List.length_append, List.length_cons, List.length_nil]; omega, by rw [hl]; simp only [List.length_append]; omega, fun hf => ?_, rfl, fun n => ?_⟩
  · split
    · rename_i hk
      cases b with
      | nil => exact absurd ⟨hk, rfl⟩ (hw' hf)
      | cons x r => rw [List.length_cons]; omega
    · omega
  · rw [show n + [(⟨k, s, i, i + m.length⟩ : Tk)].length = n + 1 from rfl, toksP, if_neg hne]
    have hd : l.drop m.length = b ++ l' := by rw [hl, List.append_assoc]; exact List.drop_left
    have hp : blankP (b ++ l') false (i + m.length) = i + m.length + b.length := by rw [hb, h']
    simp only [hn i]
    rw [if_neg (fun ⟨hk, hji⟩ => by
      cases w with
      | true => exact hw rfl hk
      | false => exact hj rfl hji), if_neg (by decide), show i + m.length - i = m.length by omega, hd, hp, show i + m.length + b.length - (i + m.length) = b.length by omega, List.drop_left]
    rfl
/-- what may stand behind a word -/
def NoW (l : List Nat) : Prop := ∀ c r, l = c :: r → ¬ Go.QP.Lt c
theorem NoW.nil : NoW [] := fun _ _ h => by cases h
theorem NoW.cons {c : Nat} {l : List Nat} (h : ¬ Go.QP.Lt c) : NoW (c :: l) := fun _ _ e => by cases e; exact h
theorem wordN_all {num : Bool} : ∀ {l r : List Nat} {n : Nat}, (∀ c ∈ l, Go.QP.Lt c ∧ (num = true → c ≤ 57)) → l.length ≤ n → NoW r → wordN num n (l ++ r) = l.length
  | [], [], n, _, _, _ => by cases n <;> rfl
  | [], c :: r, 0, _, _, _ => rfl
  | [], c :: r, n + 1, _, _, hr => by
    rw [List.nil_append, wordN, if_neg (fun h => hr c r rfl h.1)]; rfl
  | c :: l, r, 0, _, hn, _ => by rw [List.length_cons] at hn; omega
  | c :: l, r, n + 1, h, hn, hr => by
    rw [List.length_cons] at hn
    rw [List.cons_append, wordN, if_pos (h c (List.mem_cons_self ..)), wordN_all (fun x hx => h x (List.mem_cons_of_mem _ hx)) (by omega) hr, List.length_cons, Nat.add_comm]
theorem bl_ch {s : ByteArray} {i : Nat} (h : i < s.size) : (bl s)[i]? = some (ch s i) := by
  have h' : i < s.data.toList.length := by simpa using h
  have h2 : i < s.data.size := h
  unfold bl ch
  rw [List.getElem?_map, List.getElem?_eq_getElem h', Option.map_some, ByteArray.get!]
  congr 2
  rw [Array.getElem_toList]
  exact (getElem!_pos s.data i h2).symm
theorem bl_cons {s : ByteArray} (h : 1 ≤ s.size) : ∃ r, bl s = ch s 0 :: r := by
  have h0 := bl_ch (s := s) (i := 0) h
  cases hb : bl s with
  | nil => rw [hb] at h0; cases h0
  | cons c r => rw [hb] at h0; cases h0; exact ⟨r, rfl⟩
theorem mem_bl {s : ByteArray} {c : Nat} (h : c ∈ bl s) : ∃ j, j < s.size ∧ c = ch s j := by
  obtain ⟨j, hj, rfl⟩ := List.getElem_of_mem h
  have hj' : j < s.size := by rw [← bl_len]; exact hj
  have := bl_ch hj'
  rw [List.getElem?_eq_getElem hj] at this
  exact ⟨j, hj', by injection this⟩
theorem next_word {s : ByteArray} {r : List Nat} (hk : kind s ≠ 0) (hr : NoW r) (i : Nat) : nextP (bl s ++ r) i = (⟨kind s, if Rsv s then ByteArray.empty else s, i, i + (bl s).length⟩, true) := by
  obtain ⟨h1, h2, h3⟩ := kind_pos hk
  obtain ⟨t, ht⟩ := bl_cons h1
  have hc := h3 0 h1
  have hnum : ∀ c ∈ bl s, Go.QP.Lt c ∧ (decide (Dg (ch s 0)) = true → c ≤ 57) := by
    intro c hcm
    obtain ⟨j, hj, rfl⟩ := mem_bl hcm
    refine ⟨h3 j hj, fun hd => ?_⟩
    have hd := of_decide_eq_true hd
    rw [kind_of h1 h2 h3, if_pos hd] at hk
    by_cases had : AllD s
    · exact had j hj
    · rw [if_neg had] at hk; exact absurd rfl hk
  have hw : wordN (decide (Dg (ch s 0))) 64 (bl s ++ r) = (bl s).length := wordN_all hnum (by rw [bl_len]; exact h2) hr
  have hnx : nextP (bl s ++ r) i = wordT (bl s ++ r) i := by
    rw [ht, List.cons_append, nextP, if_neg (by omega), if_neg (by unfold sign1; rw [if_neg (by omega), if_neg (by omega), if_neg (by omega), if_neg (by omega), if_neg (by omega)]; decide), if_neg (by omega), if_neg (by omega)]
  have hh : (bl s ++ r).headD 0 = ch s 0 := by rw [ht]; rfl
  have hsn : sN ((bl s ++ r).take (bl s).length) = s := by rw [List.take_left, sN_bl]
  rw [hnx]
  simp only [wordT]
  rw [hh, hw, hsn, if_neg hk, bl_len]
theorem next_open {r : List Nat} (i : Nat) : nextP (40 :: r) i = (⟨8, ByteArray.empty, i, i + 1⟩, true) := rfl
theorem next_close {r : List Nat} (i : Nat) : nextP (41 :: r) i = (⟨9, ByteArray.empty, i, i + 1⟩, true) := rfl
theorem next_comma {r : List Nat} (i : Nat) : nextP (44 :: r) i = (⟨10, ByteArray.empty, i, i + 1⟩, true) := rfl
theorem next_unlike {r : List Nat} (i : Nat) : nextP (33 :: 61 :: r) i = (⟨14, ByteArray.empty, i, i + 2⟩, true) := rfl
theorem hx_hex {v : Nat} (h : v < 16) : hx (ch hexS v) = (v : Int) := by
  have : ∀ v, v < 16 → hx (ch hexS v) = (v : Int) := by decide
  exact this v h
theorem quoted_all : ∀ (b acc : List Nat) (r : List Nat) (i : Nat), (∀ x ∈ b, x < 256) → acc.length + b.length ≤ 1024 → quotedP (b.flatMap pieceL ++ 34 :: r) acc i = (acc ++ b, i + (b.flatMap pieceL).length + 1, true)
  | [], acc, r, i, _, _ => by rw [List.flatMap_nil, List.nil_append, quotedP_cons, if_pos rfl, List.append_nil]; rfl
  | x :: b, acc, r, i, hb, hl => by
    have hx := hb x (List.mem_cons_self ..)
    have hb' : ∀ y ∈ b, y < 256 := fun y hy => hb y (List.mem_cons_of_mem _ hy)
    rw [List.length_cons] at hl
    have ih := fun i => quoted_all b (acc ++ [x]) r i hb' (by rw [List.length_append, List.length_cons, List.length_nil]; omega)
    have happ : acc ++ [x] ++ b = acc ++ x :: b := by simp
    rw [List.flatMap_cons, List.append_assoc, List.length_append]
    by_cases h1 : x = 34 ∨ x = 92
    · rw [piece1 h1, List.cons_append, List.cons_append, List.nil_append]
      rw [quotedP_cons, if_neg (by omega), if_neg (by omega), if_pos rfl]
      rw [slashP, if_pos h1, ih, happ]
      simp only [List.length_cons, List.length_nil, Prod.mk.injEq, and_true, true_and]; omega
    by_cases h2 : x = 10
    · rw [piece2 h2, List.cons_append, List.cons_append, List.nil_append]
      rw [quotedP_cons, if_neg (by omega), if_neg (by omega), if_pos rfl]
      rw [slashP, if_neg (by omega), if_pos rfl, ← h2, ih, happ]
      simp only [List.length_cons, List.length_nil, Prod.mk.injEq, and_true, true_and]; omega
    by_cases h3 : x = 9
    · rw [piece3 h3, List.cons_append, List.cons_append, List.nil_append]
      rw [quotedP_cons, if_neg (by omega), if_neg (by omega), if_pos rfl]
      rw [slashP, if_neg (by omega), if_neg (by omega), if_pos rfl, ← h3, ih, happ]
      simp only [List.length_cons, List.length_nil, Prod.mk.injEq, and_true, true_and]; omega
    by_cases h4 : 32 ≤ x ∧ x ≤ 126
    · rw [piece4 (by omega) (by omega) h4.1 h4.2, List.cons_append, List.nil_append]
      rw [quotedP_cons, if_neg (by omega), if_neg (by omega), if_neg (by omega), ih, happ]
      simp only [List.length_cons, List.length_nil, Prod.mk.injEq, and_true, true_and]; omega
    · rw [piece5 (by omega) (by omega) h2 h3 h4, List.cons_append, List.cons_append, List.cons_append, List.cons_append, List.nil_append]
      have e1 := hx_hex (v := x / 2 ^ 4) (by omega)
      have e2 := hx_hex (v := x % 16) (by omega)
      rw [quotedP_cons, if_neg (by omega), if_neg (by omega), if_pos rfl]
      rw [slashP, if_neg (by omega), if_neg (by omega), if_neg (by omega), if_pos rfl, firstP_2, if_neg (by omega), if_neg (by omega), e1, e2, show (((x / 2 ^ 4 : Nat) : Int) * 16 + ((x % 16 : Nat) : Int)).toNat = x by omega, ih, happ]
      simp only [List.length_cons, List.length_nil, Prod.mk.injEq, and_true, true_and]; omega
theorem next_quote {s : ByteArray} {r : List Nat} (h : s.size ≤ 1024) (i : Nat) : nextP (quoteL (bl s) ++ r) i = (⟨4, s, i, i + (quoteL (bl s)).length⟩, true) := by
  have hq := quoted_all (bl s) [] r (i + 1) (fun x hx => bl_lt x hx) (by rw [bl_len]; simpa using h)
  unfold quoteL
  rw [List.cons_append, List.cons_append, nextP, if_pos rfl]
  rw [List.append_assoc, List.singleton_append, hq]
  simp only [List.nil_append, sN_bl, List.length_cons, List.length_append, List.length_nil, Prod.mk.injEq, and_true, Tk.mk.injEq, true_and]
  omega
end Go.QP
