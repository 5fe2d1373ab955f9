/- Plain law: a question that is printed is read as itself. -/
import Derived.Test.YtljfgmedbjlkaaaGreatQA
namespace Go.QP
open Go.Eng
theorem kind_rsv {s : ByteArray} (h : Rsv s) : 5 ≤ kind s := by
  rcases h with h | h | h <;> rw [bytes_ext h] <;> decide +kernel
theorem kind_not : kind NOT = 7 := by decide +kernel
/-- a term that can be printed -/
def TmG (x : Tm) : Prop := (x.1 = true ∧ kind x.2 = 2) ∨ (¬ x.1 = true ∧ x.2.size ≤ 1024)
/-- a term as it is printed -/
def termL (x : Tm) : List Nat := if x.1 = true then bl x.2 else if Bare x.2 then bl x.2 else quoteL (bl x.2)
def joinL (sep : List Nat) : List (List Nat) → List Nat
  | [] => []
  | [x] => x
  | x :: y :: r => x ++ sep ++ joinL sep (y :: r)
theorem inter_join (sep : List Nat) : ∀ l : List (List Nat), sep.intercalate l = joinL sep l
  | [] => rfl
  | [x] => by simp [List.intercalate, joinL]
  | x :: y :: r => by
    have := inter_join sep (y :: r)
    simp only [List.intercalate, List.intersperse, List.flatten_cons, joinL] at this ⊢
    rw [← this, List.append_assoc]
def atomL (p : ByteArray) (xs : List Tm) : List Nat := if xs = [] then bl p else bl p ++ [40] ++ joinL [44, 32] (xs.map termL) ++ [41]
def litL (l : Qlit) : List Nat := if l.kind = 3 then termL l.left ++ [32, 33, 61, 32] ++ termL l.right else if l.kind = 2 then [110, 111, 116, 32] ++ atomL l.pred l.args else atomL l.pred l.args
/-- the tokens -/
abbrev Kd := Nat × ByteArray
abbrev sg (k : Nat) : Kd := (k, ByteArray.empty)
def termK (x : Tm) : Kd := if x.1 = true then (2, x.2) else if kind x.2 = 1 then (1, x.2) else if kind x.2 = 3 then (3, x.2) else (4, x.2)
def sepK : List (List Kd) → List Kd
  | [] => []
  | [x] => x
  | x :: y :: r => x ++ [sg 10] ++ sepK (y :: r)
def atomK (p : ByteArray) (xs : List Tm) : List Kd := if xs = [] then [(1, p)] else [(1, p), sg 8] ++ sepK (xs.map fun x => [termK x]) ++ [sg 9]
def litK (l : Qlit) : List Kd := if l.kind = 3 then [termK l.left, sg 14, termK l.right] else if l.kind = 2 then [sg 7] ++ atomK l.pred l.args else atomK l.pred l.args
/-- a literal in form -/
def LitG (l : Qlit) : Prop := ((l.kind = 1 ∨ l.kind = 2) ∧ kind l.pred = 1 ∧ l.args.length ≤ 16 ∧ (∀ x ∈ l.args, TmG x) ∧ l.left = Tm0 ∧ l.right = Tm0) ∨ (l.kind = 3 ∧ TmG l.left ∧ TmG l.right ∧ l.pred = ByteArray.empty ∧ l.args = [])
theorem lx_word {s : ByteArray} {k : Nat} {w' : Bool} {r b l' : List Nat} (hk : kind s = k) (h : k = 1 ∨ k = 2 ∨ k = 3) (hr : r = b ++ l') (hn : NoW r) (hb : BlankL b) (h' : NoB l') (hw' : w' = false → b ≠ []) : Lx false (bl s ++ r) [(k, s)] w' l' := by
  have hrs : ¬ Rsv s := fun h' => by have := kind_rsv h'; omega
  refine Lx.tok (m := bl s) (b := b) (by rw [hr, List.append_assoc]) (by rw [bl_len]; have := kind_pos (s := s) (by omega); omega) (fun i => ?_) (fun h => by cases h) hb h' (fun h hx => hw' h hx.2)
  rw [next_word (by omega) hn, if_neg hrs, hk]
theorem lx_term {x : Tm} {w' : Bool} {r b l' : List Nat} (hx : TmG x) (hr : r = b ++ l') (hn : NoW r) (hb : BlankL b) (h' : NoB l') (hw' : w' = false → b ≠ []) : Lx false (termL x ++ r) [termK x] w' l' := by
  obtain ⟨v, s⟩ := x
  unfold termL termK
  rcases hx with ⟨h1, h2⟩ | ⟨h1, h2⟩
  · have h1 : v = true := h1
    subst h1
    exact lx_word h2 (.inr (.inl rfl)) hr hn hb h' hw'
  · have h1 : ¬ v = true := h1
    simp only [if_neg h1]
    by_cases k1 : kind s = 1
    · rw [if_pos (show Bare s from .inl k1), if_pos k1]; exact lx_word k1 (.inl rfl) hr hn hb h' hw'
    · by_cases k3 : kind s = 3
      · rw [if_pos (show Bare s from .inr k3), if_neg k1, if_pos k3]; exact lx_word k3 (.inr (.inr rfl)) hr hn hb h' hw'
      · rw [if_neg (show ¬ Bare s from fun h => h.elim k1 k3), if_neg k1, if_neg k3]
        refine Lx.tok (m := quoteL (bl s)) (b := b) (by rw [hr, List.append_assoc]) (by unfold quoteL; simp) (fun i => next_quote h2 i) (fun h => by cases h) hb h' (fun _ hx => by have := hx.1; simp [WordK] at this)
theorem lx_sign {w w' : Bool} {c k : Nat} {r b l' : List Nat} (hc : ∀ i, nextP (c :: r) i = (⟨k, ByteArray.empty, i, i + 1⟩, true)) (hk : ¬ WordK k) (hr : r = b ++ l') (hb : BlankL b) (h' : NoB l') : Lx w (c :: r) [sg k] w' l' :=
  Lx.tok (m := [c]) (b := b) (by rw [hr]; rfl) (by simp) hc (fun _ => hk) hb h' (fun _ h => hk h.1)
theorem blank32 : BlankL [32] := .one (.inl rfl)
theorem termL_head {x : Tm} (hx : TmG x) : ∃ c r, termL x = c :: r ∧ (Go.QP.Lt c ∨ c = 34) := by
  obtain ⟨v, s⟩ := x
  have word : kind s ≠ 0 → ∃ c r, bl s = c :: r ∧ (Go.QP.Lt c ∨ c = 34) := fun h => by
    obtain ⟨h1, _, h3⟩ := kind_pos h
    obtain ⟨r, hr⟩ := bl_cons h1
    exact ⟨_, r, hr, .inl (h3 0 h1)⟩
  unfold termL
  rcases hx with ⟨h1, h2⟩ | ⟨h1, h2⟩
  · rw [if_pos h1]; exact word (by rw [show kind s = 2 from h2]; decide)
  · rw [if_neg h1]
    by_cases hb : Bare s
    · rw [if_pos hb]; exact word (by rcases hb with hb | hb <;> rw [hb] <;> decide)
    · rw [if_neg hb]; exact ⟨34, _, rfl, .inr rfl⟩
theorem noB_of {l : List Nat} {c : Nat} {r : List Nat} (h : l = c :: r) (hc : Go.QP.Lt c ∨ c = 34) : NoB l := by
  rw [h]; exact NoB.cons (by unfold Go.QP.Lt at hc; omega)
theorem noB_term {x : Tm} (hx : TmG x) (r : List Nat) : NoB (termL x ++ r) := by
  obtain ⟨c, t, h, hc⟩ := termL_head hx
  exact noB_of (by rw [h]; rfl) hc
theorem lx_args {b l' : List Nat} (hb : BlankL b) (h' : NoB l') : ∀ (x : Tm) (xs : List Tm), (∀ y ∈ x :: xs, TmG y) → Lx false (joinL [44, 32] ((x :: xs).map termL) ++ 41 :: (b ++ l')) (sepK ((x :: xs).map fun x => [termK x]) ++ [sg 9]) false l'
  | x, [], h => by
    have hx := h x (List.mem_cons_self ..)
    refine Lx.trans (lx_term (w' := true) (b := []) (l' := 41 :: (b ++ l')) hx rfl (NoW.cons (by decide)) .nil (NoB.cons (by decide)) (fun h => by cases h)) ?_
    exact lx_sign (fun i => next_close i) (by decide) rfl hb h'
  | x, y :: xs, h => by
    have hx := h x (List.mem_cons_self ..)
    have hy : ∀ z ∈ y :: xs, TmG z := fun z hz => h z (List.mem_cons_of_mem _ hz)
    have ih := lx_args hb h' y xs hy
    have hj : joinL [44, 32] ((x :: y :: xs).map termL) ++ 41 :: (b ++ l') = termL x ++ (44 :: ([32] ++ (joinL [44, 32] ((y :: xs).map termL) ++ 41 :: (b ++ l')))) := by
      simp only [List.map_cons, joinL, List.append_assoc, List.cons_append, List.nil_append]
    have hk : sepK ((x :: y :: xs).map fun x => [termK x]) ++ [sg 9] = [termK x] ++ ([sg 10] ++ (sepK ((y :: xs).map fun x => [termK x]) ++ [sg 9])) := by
      simp only [List.map_cons, sepK, List.append_assoc]
    rw [hj, hk]
    have hnb : NoB (joinL [44, 32] ((y :: xs).map termL) ++ 41 :: (b ++ l')) := by
      cases xs with
      | nil => exact noB_term (hy y (List.mem_cons_self ..)) _
      | cons z zs => simp only [List.map_cons, joinL, List.append_assoc]; exact noB_term (hy y (List.mem_cons_self ..)) _
    refine Lx.trans (lx_term (w' := true) (b := []) hx rfl (NoW.cons (by decide)) .nil (NoB.cons (by decide)) (fun h => by cases h)) ?_
    exact Lx.trans (lx_sign (b := [32]) (w' := false) (fun i => next_comma i) (by decide) rfl blank32 hnb) ih
theorem lx_atom {p : ByteArray} {xs : List Tm} {r b l' : List Nat} (hp : kind p = 1) (hx : ∀ x ∈ xs, TmG x) (hr : r = b ++ l') (hn : NoW r) (hb : BlankL b) (h' : NoB l') : Lx false (atomL p xs ++ r) (atomK p xs) true l' := by
  unfold atomL atomK
  cases xs with
  | nil => rw [if_pos rfl, if_pos rfl]; exact lx_word hp (.inl rfl) hr hn hb h' (fun h => by cases h)
  | cons x xs =>
    rw [if_neg (by simp), if_neg (by simp)]
    have hnb : NoB (joinL [44, 32] ((x :: xs).map termL) ++ 41 :: (b ++ l')) := by
      cases xs with
      | nil => exact noB_term (hx x (List.mem_cons_self ..)) _
      | cons z zs => simp only [List.map_cons, joinL, List.append_assoc]; exact noB_term (hx x (List.mem_cons_self ..)) _
    have e1 : bl p ++ [40] ++ joinL [44, 32] ((x :: xs).map termL) ++ [41] ++ r = bl p ++ (40 :: ([] ++ (joinL [44, 32] ((x :: xs).map termL) ++ 41 :: (b ++ l')))) := by
      rw [hr]; simp only [List.append_assoc, List.cons_append, List.nil_append]
    have e2 : [((1 : Nat), p), sg 8] ++ sepK ((x :: xs).map fun x => [termK x]) ++ [sg 9] = [(1, p)] ++ ([sg 8] ++ (sepK ((x :: xs).map fun x => [termK x]) ++ [sg 9])) := by
      simp only [List.append_assoc, List.cons_append, List.nil_append]
    rw [e1, e2]
    refine Lx.trans (lx_word (w' := true) (b := []) hp (.inl rfl) rfl (NoW.cons (by decide)) .nil (NoB.cons (by decide)) (fun h => by cases h)) ?_
    refine Lx.trans (lx_sign (b := []) (w' := false) (fun i => next_open i) (by decide) rfl .nil hnb) ?_
    intro i jt hj
    obtain ⟨ts, i', jt', a1, a2, a3, a4⟩ := lx_args hb h' x xs hx i jt hj
    exact ⟨ts, i', jt', a1, a2, (fun h => by cases h), a4⟩
theorem bl_NOT : bl NOT = [110, 111, 116] := rfl
theorem lx_not {r : List Nat} (h' : NoB r) : Lx false ([110, 111, 116, 32] ++ r) [sg 7] false r := by
  refine Lx.tok (m := [110, 111, 116]) (b := [32]) (by simp) (by simp) (fun i => ?_) (fun h => by cases h) blank32 h' (fun _ h => by cases h.2)
  have := next_word (s := NOT) (r := 32 :: r) (by rw [kind_not]; decide) (NoW.cons (by decide)) i
  rw [kind_not, if_pos (.inr (.inr rfl)), bl_NOT] at this
  exact this
theorem noB_atom {p : ByteArray} {xs : List Tm} (hp : kind p = 1) (r : List Nat) : NoB (atomL p xs ++ r) := by
  obtain ⟨h1, _, h3⟩ := kind_pos (s := p) (by rw [hp]; decide)
  obtain ⟨t, ht⟩ := bl_cons h1
  unfold atomL
  split
  · exact noB_of (by rw [ht]; rfl) (.inl (h3 0 h1))
  · simp only [ht, List.cons_append]; exact noB_of rfl (.inl (h3 0 h1))
theorem lx_lit {x : Qlit} {r b l' : List Nat} (hx : LitG x) (hr : r = b ++ l') (hn : NoW r) (hb : BlankL b) (h' : NoB l') : Lx false (litL x ++ r) (litK x) true l' := by
  unfold litL litK
  rcases hx with ⟨hk, hp, _, ha, _⟩ | ⟨hk, hl, hrr, _⟩
  · have h3 : ¬ x.kind = 3 := by omega
    simp only [if_neg h3]
    by_cases h2 : x.kind = 2
    · simp only [if_pos h2]
      rw [List.append_assoc]
      exact Lx.trans (lx_not (noB_atom hp _)) (lx_atom hp ha hr hn hb h')
    · simp only [if_neg h2]
      exact lx_atom hp ha hr hn hb h'
  · rw [if_pos hk, if_pos hk]
    have e1 : termL x.left ++ [32, 33, 61, 32] ++ termL x.right ++ r = termL x.left ++ ([32] ++ (33 :: 61 :: ([32] ++ (termL x.right ++ r)))) := by simp only [List.append_assoc, List.cons_append, List.nil_append]
    have e2 : [termK x.left, sg 14, termK x.right] = [termK x.left] ++ ([sg 14] ++ [termK x.right]) := rfl
    rw [e1, e2]
    refine Lx.trans (lx_term (w' := true) (b := [32]) hl rfl (NoW.cons (by decide)) blank32 (NoB.cons (by decide)) (fun h => by cases h)) ?_
    refine Lx.trans (Lx.tok (w' := false) (m := [33, 61]) (b := [32]) (l' := termL x.right ++ r) (by simp) (by simp) (fun i => next_unlike i) (fun _ => by decide) blank32 (noB_term hrr _) (fun _ h => by have := h.1; simp [WordK] at this)) ?_
    exact lx_term (w' := true) hrr hr hn hb h' (fun h => by cases h)
theorem noB_lit {x : Qlit} (hx : LitG x) (r : List Nat) : NoB (litL x ++ r) := by
  unfold litL
  rcases hx with ⟨hk, hp, _⟩ | ⟨hk, hl, _⟩
  · rw [if_neg (by omega)]
    split
    · exact NoB.cons (by decide)
    · exact noB_atom hp _
  · rw [if_pos hk, List.append_assoc, List.append_assoc]; exact noB_term hl _
/-- a question's literals are cut into their tokens -/
theorem lx_lits {r b l' : List Nat} (hr : r = b ++ l') (hn : NoW r) (hb : BlankL b) (h' : NoB l') : ∀ (x : Qlit) (xs : List Qlit), (∀ y ∈ x :: xs, LitG y) → Lx false (joinL [44, 32] ((x :: xs).map litL) ++ r) (sepK ((x :: xs).map litK)) true l'
  | x, [], h => lx_lit (h x (List.mem_cons_self ..)) hr hn hb h'
  | x, y :: xs, h => by
    have hx := h x (List.mem_cons_self ..)
    have hy : ∀ z ∈ y :: xs, LitG z := fun z hz => h z (List.mem_cons_of_mem _ hz)
    have ih := lx_lits hr hn hb h' y xs hy
    have hj : joinL [44, 32] ((x :: y :: xs).map litL) ++ r = litL x ++ (44 :: ([32] ++ (joinL [44, 32] ((y :: xs).map litL) ++ r))) := by
      simp only [List.map_cons, joinL, List.append_assoc, List.cons_append, List.nil_append]
    have hk : sepK ((x :: y :: xs).map litK) = litK x ++ ([sg 10] ++ sepK ((y :: xs).map litK)) := by
      simp only [List.map_cons, sepK, List.append_assoc]
    rw [hj, hk]
    have hnb : NoB (joinL [44, 32] ((y :: xs).map litL) ++ r) := by
      cases xs with
      | nil => exact noB_lit (hy y (List.mem_cons_self ..)) _
      | cons z zs => simp only [List.map_cons, joinL, List.append_assoc]; exact noB_lit (hy y (List.mem_cons_self ..)) _
    refine Lx.trans (lx_lit (b := []) hx rfl (NoW.cons (by decide)) .nil (NoB.cons (by decide))) ?_
    exact Lx.trans (lx_sign (b := [32]) (w' := false) (fun i => next_comma i) (by decide) rfl blank32 hnb) ih
end Go.QP
namespace Go.QP
open Go.Eng
def takesK (r : RS) : List Kd → Option RS
  | [] => some r
  | x :: l => (takeS r x.1 x.2).bind fun r1 => takesK r1 l
theorem takesK_app (r : RS) : ∀ a b : List Kd, takesK r (a ++ b) = (takesK r a).bind fun r1 => takesK r1 b
  | [], b => rfl
  | x :: a, b => by
    rw [List.cons_append, takesK, takesK]
    cases takeS r x.1 x.2 with
    | none => rfl
    | some r1 => exact takesK_app r1 a b
theorem takesS_of : ∀ {r r' : RS} {ts : List Tk}, takesK r (ts.map fun t => (t.k, t.s)) = some r' → takesS r ts = (r', none)
  | r, r', [], h => by cases h; rfl
  | r, r', t :: ts, h => by
    rw [List.map_cons, takesK] at h
    rw [takesS]
    cases h1 : takeS r t.k t.s with
    | none => rw [h1] at h; cases h
    | some r1 => rw [h1] at h; exact takesS_of h
theorem termT_K {x : Tm} (hx : TmG x) : termT (termK x).1 (termK x).2 = some x ∧ (termK x).1 ≠ 7 := by
  obtain ⟨v, s⟩ := x
  unfold termK
  rcases hx with ⟨h1, h2⟩ | ⟨h1, h2⟩
  · have h1 : v = true := h1
    subst h1
    exact ⟨rfl, fun h => by cases h⟩
  · have h1 : v = false := by simpa using h1
    subst h1
    simp only [Bool.false_eq_true, if_false]
    split
    · exact ⟨rfl, fun h => by cases h⟩
    split
    · exact ⟨rfl, fun h => by cases h⟩
    · exact ⟨rfl, fun h => by cases h⟩
theorem take0 (q : List Qlit) (now : Qlit) (k : Nat) (s : ByteArray) : takeS ⟨q, 0, now⟩ k s = if k = 7 then some ⟨q, 1, { now with kind := 2 }⟩ else if k = 1 then some ⟨q, 2, { now with pred := s }⟩ else (termT k s).map fun x => ⟨q, 6, ⟨3, ByteArray.empty, [], x, Tm0⟩⟩ := rfl
theorem take5 (q : List Qlit) (now : Qlit) (k : Nat) (s : ByteArray) : takeS ⟨q, 5, now⟩ k s = if k = 10 ∧ now.args.length < 16 then some ⟨q, 4, now⟩ else if k = 9 then some (doneS ⟨q, 5, now⟩) else none := rfl
theorem take7 (q : List Qlit) (now : Qlit) (k : Nat) (s : ByteArray) : takeS ⟨q, 7, now⟩ k s = (termT k s).map fun x => doneS ⟨q, 7, { now with right := x }⟩ := rfl
theorem take8 (q : List Qlit) (now : Qlit) (k : Nat) (s : ByteArray) : takeS ⟨q, 8, now⟩ k s = if k = 10 ∧ q.length < 256 then some ⟨q, 0, now⟩ else none := rfl
theorem take_arg {r : RS} {x : Tm} (h4 : r.at_ = 4) (hx : TmG x) : takeS r (termK x).1 (termK x).2 = some { r with at_ := 5, now := { r.now with args := r.now.args ++ [x] } } := by
  unfold takeS
  rw [if_neg (by omega), if_neg (by omega), if_neg (by omega), if_pos h4, (termT_K hx).1]; rfl
theorem takes_args : ∀ (x : Tm) (xs : List Tm) (r : RS), r.at_ = 4 → (∀ y ∈ x :: xs, TmG y) → r.now.args.length + (x :: xs).length ≤ 16 →
    takesK r (sepK ((x :: xs).map fun x => [termK x]) ++ [sg 9]) = some (doneS { r with now := { r.now with args := r.now.args ++ x :: xs } })
  | x, [], r, h4, hx, _ => by
    show (takeS r (termK x).1 (termK x).2).bind _ = _
    rw [take_arg h4 (hx x (List.mem_cons_self ..))]
    rfl
  | x, y :: xs, r, h4, hx, hl => by
    have hk : sepK ((x :: y :: xs).map fun x => [termK x]) ++ [sg 9] = termK x :: sg 10 :: (sepK ((y :: xs).map fun x => [termK x]) ++ [sg 9]) := by
      simp only [List.map_cons, sepK, List.cons_append, List.nil_append]
    rw [hk, takesK, take_arg h4 (hx x (List.mem_cons_self ..))]
    simp only [List.length_cons] at hl
    have ih := takes_args y xs { r with at_ := 4, now := { r.now with args := r.now.args ++ [x] } } rfl (fun z hz => hx z (List.mem_cons_of_mem _ hz)) (by simp only [List.length_append, List.length_cons, List.length_nil]; omega)
    have hc : takeS { r with at_ := 5, now := { r.now with args := r.now.args ++ [x] } } 10 ByteArray.empty = some { r with at_ := 4, now := { r.now with args := r.now.args ++ [x] } } := by
      rw [take5, if_pos ⟨rfl, by simp only [List.length_append, List.length_cons, List.length_nil]; omega⟩]
    show (takeS _ 10 ByteArray.empty).bind _ = _
    rw [hc]
    show takesK _ _ = _
    rw [ih]
    simp only [List.append_assoc, List.cons_append, List.nil_append]
    rfl
/-- a literal that has been read -/
def ReadL (pre : List Qlit) (x : Qlit) (r : RS) : Prop := endsS r = ⟨pre ++ [x], 8, Qlit0⟩ ∧ (pre.length + 1 < 256 → takeS r 10 ByteArray.empty = some ⟨pre ++ [x], 0, Qlit0⟩)
theorem ReadL.of8 {pre : List Qlit} {x : Qlit} : ReadL pre x ⟨pre ++ [x], 8, Qlit0⟩ := by
  refine ⟨rfl, fun h => ?_⟩
  rw [take8, if_pos ⟨rfl, by simp only [List.length_append, List.length_cons, List.length_nil]; omega⟩]
theorem ReadL.of2 {pre : List Qlit} {p : ByteArray} : ReadL pre ⟨1, p, [], Tm0, Tm0⟩ ⟨pre, 2, ⟨0, p, [], Tm0, Tm0⟩⟩ := by
  refine ⟨rfl, fun h => ?_⟩
  show (if (10 : Nat) = 10 ∧ pre.length + 1 < 256 then _ else _) = _
  rw [if_pos ⟨rfl, h⟩]; rfl
theorem ReadL.of3 {pre : List Qlit} {p : ByteArray} : ReadL pre ⟨2, p, [], Tm0, Tm0⟩ ⟨pre, 3, ⟨2, p, [], Tm0, Tm0⟩⟩ := by
  refine ⟨rfl, fun h => ?_⟩
  show (if (10 : Nat) = 10 ∧ pre.length + 1 < 256 then _ else _) = _
  rw [if_pos ⟨rfl, h⟩]; rfl
theorem takes_lit {x : Qlit} {pre : List Qlit} (hx : LitG x) : ∃ r', takesK ⟨pre, 0, Qlit0⟩ (litK x) = some r' ∧ ReadL pre x r' := by
  obtain ⟨k, p, xs, lf, rt⟩ := x
  rcases hx with ⟨hk, hp, hl, ha, h1, h2⟩ | ⟨hk, hl, hr, hp, ha⟩
  · have h1 : lf = Tm0 := h1
    have h2 : rt = Tm0 := h2
    have hl : xs.length ≤ 16 := hl
    have ha : ∀ x ∈ xs, TmG x := ha
    subst h1 h2
    have hk' : k = 1 ∨ k = 2 := hk
    rcases hk' with rfl | rfl
    · cases xs with
      | nil => exact ⟨_, rfl, ReadL.of2⟩
      | cons y ys =>
        refine ⟨⟨pre ++ [⟨1, p, y :: ys, Tm0, Tm0⟩], 8, Qlit0⟩, ?_, ReadL.of8⟩
        have := takes_args y ys ⟨pre, 4, ⟨1, p, [], Tm0, Tm0⟩⟩ rfl ha (by simpa using hl)
        show takesK ⟨pre, 4, ⟨1, p, [], Tm0, Tm0⟩⟩ (sepK ((y :: ys).map fun x => [termK x]) ++ [sg 9]) = _
        rw [this]; rfl
    · cases xs with
      | nil => exact ⟨_, rfl, ReadL.of3⟩
      | cons y ys =>
        refine ⟨⟨pre ++ [⟨2, p, y :: ys, Tm0, Tm0⟩], 8, Qlit0⟩, ?_, ReadL.of8⟩
        have := takes_args y ys ⟨pre, 4, ⟨2, p, [], Tm0, Tm0⟩⟩ rfl ha (by simpa using hl)
        show takesK ⟨pre, 4, ⟨2, p, [], Tm0, Tm0⟩⟩ (sepK ((y :: ys).map fun x => [termK x]) ++ [sg 9]) = _
        rw [this]; rfl
  · have hk : k = 3 := hk
    have hp : p = ByteArray.empty := hp
    have ha : xs = [] := ha
    have hl : TmG lf := hl
    have hr : TmG rt := hr
    subst hk hp ha
    refine ⟨⟨pre ++ [⟨3, ByteArray.empty, [], lf, rt⟩], 8, Qlit0⟩, ?_, ReadL.of8⟩
    have e : litK ⟨3, ByteArray.empty, [], lf, rt⟩ = [termK lf, sg 14, termK rt] := rfl
    rw [e]
    have h2 : ∃ r1, takeS ⟨pre, 0, Qlit0⟩ (termK lf).1 (termK lf).2 = some r1 ∧ takeS r1 14 ByteArray.empty = some ⟨pre, 7, ⟨3, ByteArray.empty, [], lf, Tm0⟩⟩ := by
      by_cases h1 : (termK lf).1 = 1
      · have hn : lf = (false, (termK lf).2) := by
          have := (termT_K hl).1
          rw [h1] at this
          simpa [termT] using this.symm
        refine ⟨⟨pre, 2, ⟨0, (termK lf).2, [], Tm0, Tm0⟩⟩, ?_, ?_⟩
        · rw [take0, if_neg (termT_K hl).2, if_pos h1]
        · conv => rhs; rw [hn]
          rfl
      · refine ⟨⟨pre, 6, ⟨3, ByteArray.empty, [], lf, Tm0⟩⟩, ?_, rfl⟩
        rw [take0, if_neg (termT_K hl).2, if_neg h1, (termT_K hl).1]; rfl
    obtain ⟨r1, e1, e2⟩ := h2
    have e3 : takeS ⟨pre, 7, ⟨3, ByteArray.empty, [], lf, Tm0⟩⟩ (termK rt).1 (termK rt).2 = some ⟨pre ++ [⟨3, ByteArray.empty, [], lf, rt⟩], 8, Qlit0⟩ := by
      rw [take7, (termT_K hr).1]; rfl
    rw [takesK, e1, Option.bind_some, takesK]
    show (takeS r1 14 ByteArray.empty).bind _ = _
    rw [e2, Option.bind_some, takesK, e3]; rfl
theorem takes_lits : ∀ (x : Qlit) (xs pre : List Qlit), (∀ y ∈ x :: xs, LitG y) → pre.length + (x :: xs).length ≤ 256 → ∃ r', takesK ⟨pre, 0, Qlit0⟩ (sepK ((x :: xs).map litK)) = some r' ∧ endsS r' = ⟨pre ++ x :: xs, 8, Qlit0⟩
  | x, [], pre, hx, _ => by
    obtain ⟨r', h1, h2⟩ := takes_lit (pre := pre) (hx x (List.mem_cons_self ..))
    exact ⟨r', h1, h2.1⟩
  | x, y :: xs, pre, hx, hl => by
    simp only [List.length_cons] at hl
    obtain ⟨r1, h1, h2⟩ := takes_lit (pre := pre) (hx x (List.mem_cons_self ..))
    obtain ⟨r', h3, h4⟩ := takes_lits y xs (pre ++ [x]) (fun z hz => hx z (List.mem_cons_of_mem _ hz)) (by simp only [List.length_append, List.length_cons, List.length_nil]; omega)
    refine ⟨r', ?_, by rw [h4]; simp⟩
    have hk : sepK ((x :: y :: xs).map litK) = litK x ++ (sg 10 :: sepK ((y :: xs).map litK)) := by
      simp only [List.map_cons, sepK, List.append_assoc, List.cons_append, List.nil_append]
    rw [hk, takesK_app, h1, Option.bind_some, takesK]
    show (takeS r1 10 ByteArray.empty).bind _ = _
    rw [h2.2 (by omega)]
    exact h3
/-- a question as it is printed, without its mark -/
def textL (q : List Qlit) : List Nat := joinL [44, 32] (q.map litL)
/-- what a text of blanks, a question, and something behind it is cut into -/
theorem toks_text {q : List Qlit} {t : ByteArray} {a r : List Nat} (ht : bl t = a ++ textL q ++ r) (ha : BlankL a) (hr : NoW r) (hq : q ≠ []) (hg : ∀ x ∈ q, LitG x) (hl : q.length ≤ 256) (hb : NoB r)
    (hend : ∀ n i jt, toksP (n + 1) r i jt = ([], Tk0, i)) : ∃ ts r', toksOf t = (ts, Tk0, a.length + (textL q).length) ∧ takesS RS0 ts = (r', none) ∧ endsS r' = ⟨q, 8, Qlit0⟩ := by
  cases q with
  | nil => exact absurd rfl hq
  | cons x xs =>
    have hx := lx_lits (r := r) (b := []) (l' := r) rfl hr .nil hb x xs hg
    have hnb : NoB (textL (x :: xs) ++ r) := by
      unfold textL
      cases xs with
      | nil => exact noB_lit (hg x (List.mem_cons_self ..)) _
      | cons z zs => simp only [List.map_cons, joinL, List.append_assoc]; exact noB_lit (hg x (List.mem_cons_self ..)) _
    have hp : blankP (bl t) false 0 = a.length := by rw [ht, List.append_assoc, ha, hnb, Nat.zero_add]
    have hd : (bl t).drop a.length = textL (x :: xs) ++ r := by rw [ht, List.append_assoc, List.drop_left]
    have hsz : t.size = a.length + (textL (x :: xs)).length + r.length := by rw [← bl_len, ht]; simp only [List.length_append]
    obtain ⟨ts, i', jt', h1, h2, _, h4, h5⟩ := hx a.length (-1) (fun _ => by omega)
    obtain ⟨r', h6, h7⟩ := takes_lits x xs [] hg (by simpa using hl)
    have hge : ts.length ≤ (textL (x :: xs)).length := by
      unfold textL; simp only [List.length_append] at h1; omega
    refine ⟨ts, r', ?_, takesS_of (by rw [h4]; exact h6), by rw [h7]; rfl⟩
    unfold toksOf
    rw [hp, hd, show t.size + 1 = t.size - ts.length + 1 + ts.length by omega]
    have h8 := h5 (t.size - ts.length + 1)
    unfold textL
    rw [h8, hend]
    simp only [List.append_nil, List.length_append] at h2 ⊢
    rw [show i' = a.length + (joinL [44, 32] (List.map litL (x :: xs))).length by omega]
end Go.QP
