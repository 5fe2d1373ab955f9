/- Orders of texts by their numbers; sets of what is alike under a map; floats that may be NaN. Seat-free. -/
import Derived.Test.YtegpcbckiehleaaDoorSR
import Derived.Test.YtegpcbckiehleaaDoorSNum3
namespace Go.Flt
open Ieee
theorem word_lt (neg : Bool) (r : Nat) (h : r < D.signWeight) : sgn (D.word neg r) = neg ∧ rng (D.word neg r) = r := by
  unfold sgn rng Format.word
  rw [D_sw] at *
  cases neg
  · simp only [Bool.false_eq_true, if_false]
    exact ⟨by rw [Nat.div_eq_of_lt h]; rfl, Nat.mod_eq_of_lt h⟩
  · simp only [if_true]
    exact ⟨by rw [show (9223372036854775808 + r) / 9223372036854775808 = 1 by omega]; rfl, by omega⟩
/-- what a word that is no NaN says -/
theorem read_kv {x : Nat} (h : NN x) : (rng x < D.infRung ∧ ∃ m k : Nat, D.read x = .number (sgn x) m (D.leastPlace + (k : Nat)) ∧ val (rng x) = m * 2 ^ k) ∨ (rng x = D.infRung ∧ D.read x = .infinity (sgn x)) := by
  unfold NN at h
  have e : D.read x = if rng x < D.binade then .number (sgn x) (rng x) D.leastPlace else if rng x < D.infRung then .number (sgn x) (D.binade + rng x % D.binade) (D.leastPlace + (rng x / D.binade - 1 : Nat)) else if rng x = D.infRung then .infinity (sgn x) else .nan (sgn x) (rng x - D.infRung) := rfl
  have hi := D_inf
  have hb := D_bin
  rw [e] at h ⊢
  by_cases h1 : rng x < D.binade
  · rw [if_pos h1]
    refine .inl ⟨by omega, rng x, 0, by simp, ?_⟩
    unfold val; rw [if_pos h1]; simp
  · rw [if_neg h1] at h ⊢
    by_cases h2 : rng x < D.infRung
    · rw [if_pos h2]
      refine .inl ⟨h2, _, _, rfl, ?_⟩
      unfold val; rw [if_neg h1]
    · rw [if_neg h2] at h ⊢
      by_cases h3 : rng x = D.infRung
      · rw [if_pos h3]; exact .inr ⟨h3, rfl⟩
      · rw [if_neg h3] at h; cases h
theorem signed_kv {x m k : Nat} (h : val (rng x) = m * 2 ^ k) : signed (sgn x) m k = kv x := by
  unfold signed kv
  rw [Nat.shiftLeft_eq, h]
theorem val_inf {r : Nat} (h : r < D.infRung) : val r < val D.infRung := val_mono h
theorem order_kv {x y : Nat} (hx : NN x) (hy : NN y) : D.order x y = some (compare (kv x) (kv y)) := by
  have pos : 0 < val D.infRung := by have := val_mono (a := 0) (b := D.infRung) (by rw [D_inf]; omega); omega
  show (D.read x).order (D.read y) = _
  rcases read_kv hx with ⟨h1, m, k, e1, v1⟩ | ⟨h1, e1⟩ <;> rcases read_kv hy with ⟨h2, m', k', e2, v2⟩ | ⟨h2, e2⟩
  · rw [e1, e2]
    show some (compare (signed (sgn x) m _) (signed (sgn y) m' _)) = _
    rw [← signed_kv v1, ← signed_kv v2]
    congr 1
    rcases Nat.le_total k k' with hk | hk
    · rw [show (D.leastPlace + (k : Int) - min (D.leastPlace + (k : Int)) (D.leastPlace + (k' : Int))).toNat = 0 by omega, show (D.leastPlace + (k' : Int) - min (D.leastPlace + (k : Int)) (D.leastPlace + (k' : Int))).toNat = k' - k by omega]
      rw [← cmp_scale _ _ k, ← signed_shift, ← signed_shift, Nat.zero_add, Nat.sub_add_cancel hk]
    · rw [show (D.leastPlace + (k' : Int) - min (D.leastPlace + (k : Int)) (D.leastPlace + (k' : Int))).toNat = 0 by omega, show (D.leastPlace + (k : Int) - min (D.leastPlace + (k : Int)) (D.leastPlace + (k' : Int))).toNat = k - k' by omega]
      rw [← cmp_scale _ _ k', ← signed_shift, ← signed_shift, Nat.zero_add, Nat.sub_add_cancel hk]
  · rw [e1, e2]
    have := val_inf h1
    show some (if sgn y = true then Ordering.gt else .lt) = _
    rw [cmp_int]; unfold kv; rw [h2]
    cases sgn x <;> cases sgn y <;> simp only [Bool.false_eq_true, if_false, if_true]
    · rw [if_pos (by omega)]
    · rw [if_neg (by omega), if_neg (by omega)]
    · rw [if_pos (by omega)]
    · rw [if_neg (by omega), if_neg (by omega)]
  · rw [e1, e2]
    have := val_inf h2
    show some (if sgn x = true then Ordering.lt else .gt) = _
    rw [cmp_int]; unfold kv; rw [h1]
    cases sgn x <;> cases sgn y <;> simp only [Bool.false_eq_true, if_false, if_true]
    · rw [if_neg (by omega), if_neg (by omega)]
    · rw [if_neg (by omega), if_neg (by omega)]
    · rw [if_pos (by omega)]
    · rw [if_pos (by omega)]
  · rw [e1, e2]
    show some (compare (sgn y).toNat (sgn x).toNat) = _
    rw [cmp_int]; unfold kv; rw [h1, h2]
    cases sgn x <;> cases sgn y <;> simp only [Bool.false_eq_true, if_false, if_true]
    · simp
    · rw [if_neg (by omega), if_neg (by omega)]; rfl
    · rw [if_pos (by omega)]; rfl
    · simp
theorem order_lt {x y : Nat} (hx : NN x) (hy : NN y) : D.order x y = some .lt ↔ kv x < kv y := by
  rw [order_kv hx hy, cmp_int]
  constructor
  · intro h; split at h
    · assumption
    · split at h <;> cases h
  · intro h; rw [if_pos h]
theorem order_eq {x y : Nat} (hx : NN x) (hy : NN y) : D.order x y = some .eq ↔ kv x = kv y := by
  rw [order_kv hx hy, cmp_int]
  constructor
  · intro h; split at h
    · cases h
    · split at h
      · assumption
      · cases h
  · intro h; rw [if_neg (by omega), if_pos h]
theorem order_gt {x y : Nat} (hx : NN x) (hy : NN y) : D.order x y = some .gt ↔ kv y < kv x := by
  rw [order_kv hx hy, cmp_int]
  constructor
  · intro h; split at h
    · cases h
    · split at h
      · cases h
      · omega
  · intro h; rw [if_neg (by omega), if_neg (by omega)]
theorem order_nn {x y : Nat} {o : Ordering} (h : D.order x y = some o) : NN x ∧ NN y := by
  unfold NN
  have h' : (D.read x).order (D.read y) = some o := h
  cases hx : D.read x <;> cases hy : D.read y <;> rw [hx, hy] at h' <;> first | exact ⟨rfl, rfl⟩ | cases h'
theorem order_self (x : Nat) : D.order x x = some .eq ↔ NN x := ⟨fun h => (order_nn h).1, fun h => (order_eq h h).2 rfl⟩
end Go.Flt
namespace Go.Eng
open Go.RowKit Go.OrdPure Go.Flt
/-! numbers of texts are no NaN -/
theorem negF_sgn (x : Nat) : sgn (negF x) = !sgn x ∧ rng (negF x) = rng x := by
  have e : negF x = x ^^^ 2 ^ 63 := rfl
  have hs : Flt.D.signWeight = 2 ^ 63 := by decide +kernel
  unfold sgn rng
  rw [e, hs]
  constructor
  · have h1 : (x ^^^ 2 ^ 63) / 2 ^ 63 % 2 = (x / 2 ^ 63 % 2) ^^^ 1 := by
      rw [← Nat.shiftRight_eq_div_pow, ← Nat.shiftRight_eq_div_pow, Nat.shiftRight_xor_distrib, show (2 ^ 63 : Nat) >>> 63 = 1 by decide]
      have := Nat.xor_mod_two_pow (a := x >>> 63) (b := 1) (n := 1)
      simpa using this
    rw [h1]
    have := Nat.mod_two_eq_zero_or_one (x / 2 ^ 63)
    rcases this with h | h <;> rw [h] <;> rfl
  · rw [Nat.xor_mod_two_pow, Nat.mod_self, Nat.xor_zero]
theorem negF_NN {x : Nat} (h : NN x) : NN (negF x) := by
  have hr := (negF_sgn x).2
  unfold NN at *
  have e : ∀ y, Flt.D.read y = if rng y < Flt.D.binade then .number (sgn y) (rng y) Flt.D.leastPlace else if rng y < Flt.D.infRung then .number (sgn y) (Flt.D.binade + rng y % Flt.D.binade) (Flt.D.leastPlace + (rng y / Flt.D.binade - 1 : Nat)) else if rng y = Flt.D.infRung then .infinity (sgn y) else .nan (sgn y) (rng y - Flt.D.infRung) := fun _ => rfl
  rw [e] at h ⊢
  rw [hr]
  split at h
  · rw [if_pos (by assumption)]; rfl
  · rw [if_neg (by assumption)]
    split at h
    · rw [if_pos (by assumption)]; rfl
    · rw [if_neg (by assumption)]
      split at h
      · rw [if_pos (by assumption)]; rfl
      · cases h
theorem numBits_NN {n k : Nat} (hk : k ≤ 15) : NN (numBits n k) := by
  rcases Nat.eq_zero_or_pos k with h | h
  · subst h; rw [numBits_zero]; exact fromInt_NN _
  · exact div_NN (numBits_pos h hk)
theorem numB_NN {l : List Nat} {x : Nat} (h : numB l = some x) : NN x := by
  unfold numB at h
  split at h
  · cases h
  · rename_i hh
    cases h
    exact numBits_NN (by have := fun e => hh (.inr (.inr e)); omega)
theorem numL_NN {l : List Nat} {x : Nat} (h : numL l = some x) : NN x := by
  unfold numL at h
  split at h
  · cases hq : numB l.tail with
    | none => rw [hq] at h; cases h
    | some y => rw [hq] at h; cases h; exact negF_NN (numB_NN hq)
  · exact numB_NN h
/-! orders put together -/
theorem _root_.Go.OrdPure.Lawful.on {α β : Type} {c : β → β → Int} (h : Lawful c) (f : α → β) : Lawful fun a b => c (f a) (f b) := ⟨fun a b => h.asym _ _, fun a b => h.pos _ _, fun a b d => h.trans _ _ _⟩
theorem _root_.Go.OrdPure.Lawful.lex {α : Type} {c d : α → α → Int} (hc : Lawful c) (hd : Lawful d) : Lawful fun a b => if c a b = 0 then d a b else c a b := by
  have flip : ∀ a b, c a b = 0 ↔ c b a = 0 := fun a b => by
    have h1 := hc.asym a b; have h2 := hc.pos a b; have h3 := hc.asym b a; have h4 := hc.pos b a; omega
  refine ⟨fun a b h => ?_, fun a b h => ?_, fun a b e h1 h2 => ?_⟩
  · by_cases hz : c a b = 0
    · rw [if_pos hz] at h; rw [if_pos ((flip a b).1 hz)]; exact hd.asym _ _ h
    · rw [if_neg hz] at h; rw [if_neg (fun e => hz ((flip a b).2 e))]; exact hc.asym _ _ h
  · by_cases hz : c a b = 0
    · rw [if_pos hz] at h; rw [if_pos ((flip a b).1 hz)]; exact hd.pos _ _ h
    · rw [if_neg hz] at h; rw [if_neg (fun e => hz ((flip a b).2 e))]; exact hc.pos _ _ h
  · by_cases z1 : c a b = 0
    · have e1 := hc.zero_trans (d := e) z1
      rw [if_pos z1] at h1
      by_cases z2 : c b e = 0
      · rw [if_pos z2] at h2; rw [if_pos (e1.2 z2)]; exact hd.trans _ _ _ h1 h2
      · rw [if_neg z2] at h2; rw [if_neg (fun q => z2 (e1.1 q))]
        exact hc.trans _ _ _ (by omega) h2
    · rw [if_neg z1] at h1
      by_cases z2 : c b e = 0
      · have hlt : c a e < 0 := hc.lt_of_lt_le (b := b) (by omega) (by omega)
        rw [if_neg (by omega)]; omega
      · rw [if_neg z2] at h2
        have hlt : c a e < 0 := hc.lt_of_lt_le (b := b) (by omega) h2
        rw [if_neg (by omega)]; omega
def icmp (x y : Int) : Int := if x < y then -1 else if y < x then 1 else 0
theorem icmp_law : Lawful icmp := by
  refine ⟨fun a b h => ?_, fun a b h => ?_, fun a b d h1 h2 => ?_⟩ <;> unfold icmp at * <;> (repeat' split at *) <;> omega
theorem icmp_zero {x y : Int} : icmp x y = 0 ↔ x = y := by unfold icmp; (repeat' split) <;> omega
/-- the order of Rank -/
def cmpF (x y : Nat) : Int := if Flt.D.order x y = some .lt then -1 else if Flt.D.order x y = some .gt then 1 else 0
theorem cmpF_kv {x y : Nat} (hx : NN x) (hy : NN y) : cmpF x y = icmp (kv x) (kv y) := by
  unfold cmpF icmp
  by_cases h1 : kv x < kv y
  · rw [if_pos ((order_lt hx hy).2 h1), if_pos h1]
  · rw [if_neg (fun e => h1 ((order_lt hx hy).1 e)), if_neg h1]
    by_cases h2 : kv y < kv x
    · rw [if_pos ((order_gt hx hy).2 h2), if_pos h2]
    · rw [if_neg (fun e => h2 ((order_gt hx hy).1 e)), if_neg h2]
def num (a : ByteArray) : Option Nat := numL (bl a)
def rkc (a : ByteArray) : Int := if (num a).isSome = true then 0 else 1
def rkv (a : ByteArray) : Int := match num a with | some x => kv x | none => 0
def rc0 (a b : ByteArray) : Int := if icmp (rkc a) (rkc b) = 0 then (if icmp (rkv a) (rkv b) = 0 then txt a b else icmp (rkv a) (rkv b)) else icmp (rkc a) (rkc b)
theorem rc_law : Lawful rc0 := Lawful.lex (icmp_law.on rkc) (Lawful.lex (icmp_law.on rkv) txt_law)
theorem rc_zero {a b : ByteArray} (h : rc0 a b = 0) : a = b := by
  unfold rc0 at h
  split at h
  · split at h
    · exact txt_zero h
    · contradiction
  · contradiction
theorem rc_some {a b : ByteArray} {x y : Nat} (ha : num a = some x) (hb : num b = some y) : rc0 a b = if Flt.D.order x y = some .eq then txt a b else cmpF x y := by
  have hx := numL_NN ha
  have hy := numL_NN hb
  unfold rc0 rkc rkv
  rw [ha, hb, cmpF_kv hx hy]
  simp only [Option.isSome_some, if_true]
  rw [if_pos (icmp_zero.2 rfl)]
  by_cases h : kv x = kv y
  · rw [if_pos (icmp_zero.2 h), if_pos ((order_eq hx hy).2 h)]
  · rw [if_neg (fun e => h (icmp_zero.1 e)), if_neg (fun e => h ((order_eq hx hy).1 e))]
theorem rc_sn {a b : ByteArray} {x : Nat} (ha : num a = some x) (hb : num b = none) : rc0 a b = -1 := by
  unfold rc0 rkc; rw [ha, hb]; rfl
theorem rc_ns {a b : ByteArray} {y : Nat} (ha : num a = none) (hb : num b = some y) : rc0 a b = 1 := by
  unfold rc0 rkc; rw [ha, hb]; rfl
theorem rc_nn {a b : ByteArray} (ha : num a = none) (hb : num b = none) : rc0 a b = txt a b := by
  unfold rc0 rkc rkv; rw [ha, hb]; rfl
/-! what is alike under a map -/
section
variable {α β : Type} {c : β → β → Int} {f : α → β}
theorem ins_map (x : α) (ys : List α) : (ins (fun a b => c (f a) (f b)) x ys).map f = ins c (f x) (ys.map f) := by
  induction ys with
  | nil => rfl
  | cons y ys ih =>
    simp only [ins, List.map_cons]
    split
    · rfl
    · rw [List.map_cons, ih]
theorem srt_map (xs : List α) : (srt (fun a b => c (f a) (f b)) xs).map f = srt c (xs.map f) := by
  induction xs using Go.OrdPure.rev_ind with
  | h0 => rfl
  | h1 xs x ih => rw [List.map_append, List.map_singleton, srt_snoc, srt_snoc, ins_map, ih]
theorem el_map [Inhabited α] [Inhabited β] {xs : List α} {i : Nat} (h : i < xs.length) : el (xs.map f) i = f (el xs i) := by
  rw [el_eq (by rw [List.length_map]; exact h), el_eq h, List.getElem_map]
theorem ddL_map [Inhabited α] [Inhabited β] (xs : List α) : (ddL (fun a b => c (f a) (f b)) xs).map f = ddL c (xs.map f) := by
  induction xs using Go.OrdPure.rev_ind with
  | h0 => rfl
  | h1 xs x ih =>
    rw [List.map_append, List.map_singleton, ddL_snoc, ddL_snoc, ← ih]
    unfold ddS
    rw [List.length_map]
    by_cases h0 : (ddL (fun a b => c (f a) (f b)) xs).length = 0
    · rw [if_pos (.inl h0), if_pos (.inl h0), List.map_append, List.map_singleton]
    · rw [el_map (by omega)]
      split
      · rw [List.map_append, List.map_singleton]
      · rfl
end
/-- the tuples of a list, rising, each once -/
def setL (P : List Tup) : List Tup := ddL tups (srt tups P)
theorem setL_is (P : List Tup) : IsSet (setL P) P := by
  obtain ⟨h1, h2, h3, _⟩ := ddL_spec tups_law (srt tups P) (srt_rise tups_law P)
  refine ⟨h1, fun t => ⟨fun h => (srt_mem _ _).1 (h3 t h), fun h => ?_⟩⟩
  obtain ⟨y, hy, e⟩ := h2 t ((srt_mem _ _).2 h)
  exact tups_zero e ▸ hy
theorem tp_set (L : List Row) : tp (ddL (fun a b => tups a.2 b.2) (srt (fun a b => tups a.2 b.2) L)) = setL (tp L) := by
  unfold tp setL; rw [ddL_map (f := fun x : Row => x.2) (c := tups), srt_map (f := fun x : Row => x.2) (c := tups)]
def rankL (l : List ByteArray) : List ByteArray := ddL rc0 (srt rc0 l)
theorem rankL_is (l : List ByteArray) : (rankL l).Pairwise (fun a b => rc0 a b < 0) ∧ ∀ t, t ∈ rankL l ↔ t ∈ l := by
  obtain ⟨h1, h2, h3, _⟩ := ddL_spec rc_law (srt rc0 l) (srt_rise rc_law l)
  refine ⟨h1, fun t => ⟨fun h => (srt_mem _ _).1 (h3 t h), fun h => ?_⟩⟩
  obtain ⟨y, hy, e⟩ := h2 t ((srt_mem _ _).2 h)
  exact rc_zero e ▸ hy
end Go.Eng
