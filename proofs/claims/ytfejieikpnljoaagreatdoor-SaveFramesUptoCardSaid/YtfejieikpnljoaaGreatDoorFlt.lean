/- Floating point of the model: what is no NaN, and the order. Seat-free. -/
import Ieee.Arith
namespace Go.Flt
open Ieee
abbrev D : Format := Ieee.double
def NN (x : Nat) : Prop := (D.read x).isNaN = false
theorem D_sw : D.signWeight = 9223372036854775808 := by decide +kernel
theorem D_bin : D.binade = 4503599627370496 := by decide +kernel
theorem D_inf : D.infRung = 9218868437227405312 := by decide +kernel
theorem D_lp : D.leastPlace = -1074 := by decide +kernel
theorem read_word (neg : Bool) (r : Nat) (h : r ≤ D.infRung) : D.read (D.word neg r) = if r < D.binade then .number neg r D.leastPlace else if r < D.infRung then .number neg (D.binade + r % D.binade) (D.leastPlace + (r / D.binade - 1 : Nat)) else .infinity neg := by
  have hs := D_sw
  have hi := D_inf
  have h1 : D.word neg r / D.signWeight % 2 = if neg then 1 else 0 := by
    unfold Format.word; rw [hs]
    cases neg
    · simp only [Bool.false_eq_true, if_false]; rw [Nat.div_eq_of_lt (by omega)]
    · simp only [if_true]; omega
  have h2 : D.word neg r % D.signWeight = r := by
    unfold Format.word; rw [hs]
    cases neg
    · simp only [Bool.false_eq_true, if_false]; exact Nat.mod_eq_of_lt (by omega)
    · simp only [if_true]; omega
  unfold Format.read
  simp only [h1, h2]
  have h3 : ((if neg = true then 1 else 0) == 1) = neg := by cases neg <;> rfl
  rw [h3]
  split
  · rfl
  · split
    · rfl
    · rw [if_pos (by omega)]
theorem word_NN {neg : Bool} {r : Nat} (h : r ≤ D.infRung) : NN (D.word neg r) := by
  unfold NN; rw [read_word neg r h]
  split
  · rfl
  · split <;> rfl
theorem nearest_NN (neg : Bool) (mag : Nat) (place : Int) : NN (D.nearest neg mag place) := by
  unfold Format.nearest
  split
  · exact word_NN (Nat.zero_le _)
  · exact word_NN (Nat.min_le_right _ _)
theorem write_NN {d : Datum} (h : d.isNaN = false) : NN (D.write d) := by
  cases d with
  | number s m i => exact nearest_NN _ _ _
  | infinity s => exact word_NN (Nat.le_refl _)
  | nan s t => cases h
theorem sum_nn {a b d : Datum} (h : a.sum b = some d) : d.isNaN = false := by
  cases a <;> cases b <;> simp only [Datum.sum] at h <;> first | (cases h; done) | (split at h <;> first | (cases h; done) | (cases h; rfl)) | (cases h; rfl) | skip
theorem product_nn {a b d : Datum} (h : a.product b = some d) : d.isNaN = false := by
  cases a <;> cases b <;> simp only [Datum.product] at h <;> first | (cases h; done) | (split at h <;> first | (cases h; done) | (cases h; rfl)) | (cases h; rfl) | skip
theorem quotient_nn {n : Nat} {a b d : Datum} (h : a.quotient n b = some d) : d.isNaN = false := by
  cases a <;> cases b <;> simp only [Datum.quotient] at h <;> first | (cases h; done) | (cases h; rfl) | (split at h <;> first | (cases h; done) | (cases h; rfl) | (split at h <;> first | (cases h; done) | (cases h; rfl)))
theorem root_nn {n : Nat} {a d : Datum} (h : a.root n = some d) : d.isNaN = false := by
  cases a <;> simp only [Datum.root] at h <;> first | (cases h; done) | (cases h; rfl) | (split at h <;> first | (cases h; done) | (cases h; rfl) | (split at h <;> first | (cases h; done) | (cases h; rfl)))
theorem map_some' {o : Option Datum} {r : Nat} (h : o.map D.write = some r) : ∃ d, o = some d ∧ D.write d = r := by
  cases o with
  | none => cases h
  | some d => exact ⟨d, rfl, Option.some.inj h⟩
theorem add_NN {x y r : Nat} (h : D.add x y = some r) : NN r := by obtain ⟨d, h1, rfl⟩ := map_some' h; exact write_NN (sum_nn h1)
theorem sub_NN {x y r : Nat} (h : D.sub x y = some r) : NN r := by obtain ⟨d, h1, rfl⟩ := map_some' h; exact write_NN (sum_nn h1)
theorem mul_NN {x y r : Nat} (h : D.mul x y = some r) : NN r := by obtain ⟨d, h1, rfl⟩ := map_some' h; exact write_NN (product_nn h1)
theorem div_NN {x y r : Nat} (h : D.div x y = some r) : NN r := by obtain ⟨d, h1, rfl⟩ := map_some' h; exact write_NN (quotient_nn h1)
theorem sqrt_NN {x r : Nat} (h : D.sqrt x = some r) : NN r := by obtain ⟨d, h1, rfl⟩ := map_some' h; exact write_NN (root_nn h1)
/-! the order -/
theorem cmp_int (a b : Int) : compare a b = if a < b then Ordering.lt else if a = b then .eq else .gt := rfl
theorem cmp_scale (a b : Int) (k : Nat) : compare (a * ((2 ^ k : Nat) : Int)) (b * ((2 ^ k : Nat) : Int)) = compare a b := by
  have hp : (0 : Int) < ((2 ^ k : Nat) : Int) := by have := Nat.two_pow_pos k; omega
  rw [cmp_int, cmp_int]
  by_cases h1 : a < b
  · rw [if_pos h1, if_pos (Int.mul_lt_mul_of_pos_right h1 hp)]
  · by_cases h2 : a = b
    · subst h2; simp
    · have h3 : b < a := by omega
      have h4 := Int.mul_lt_mul_of_pos_right h3 hp
      rw [if_neg h1, if_neg h2, if_neg (by omega), if_neg (by omega)]
theorem signed_shift (s : Bool) (m u k : Nat) : signed s m (u + k) = signed s m u * ((2 ^ k : Nat) : Int) := by
  unfold signed
  rw [Nat.shiftLeft_eq, Nat.shiftLeft_eq, Nat.pow_add, ← Nat.mul_assoc]
  cases s
  · simp only [Bool.false_eq_true, if_false]; rw [Int.natCast_mul]
  · simp only [if_true]; rw [Int.natCast_mul, Int.neg_mul]
/-- a rung's magnitude, in units of the least place -/
def val (r : Nat) : Nat := if r < D.binade then r else (D.binade + r % D.binade) * 2 ^ (r / D.binade - 1)
theorem val_mono {a b : Nat} (h : a < b) : val a < val b := by
  have hB : 0 < D.binade := by rw [D_bin]; omega
  unfold val
  by_cases ha : a < D.binade
  · rw [if_pos ha]
    by_cases hb : b < D.binade
    · rw [if_pos hb]; exact h
    · rw [if_neg hb]
      have : 1 ≤ 2 ^ (b / D.binade - 1) := Nat.two_pow_pos _
      have : D.binade * 1 ≤ (D.binade + b % D.binade) * 2 ^ (b / D.binade - 1) := Nat.mul_le_mul (Nat.le_add_right _ _) this
      omega
  · have hb : ¬ b < D.binade := by omega
    rw [if_neg ha, if_neg hb]
    have qa : 1 ≤ a / D.binade := (Nat.le_div_iff_mul_le hB).2 (by omega)
    have ea := Nat.div_add_mod a D.binade
    have eb := Nat.div_add_mod b D.binade
    have ma := Nat.mod_lt a hB
    have mb := Nat.mod_lt b hB
    have hq : a / D.binade ≤ b / D.binade := Nat.div_le_div_right (Nat.le_of_lt h)
    rcases Nat.lt_or_ge (a / D.binade) (b / D.binade) with hlt | hge
    · have h1 : (D.binade + a % D.binade) * 2 ^ (a / D.binade - 1) < (2 * D.binade) * 2 ^ (a / D.binade - 1) := Nat.mul_lt_mul_of_pos_right (by omega) (Nat.two_pow_pos _)
      have h2 : (2 * D.binade) * 2 ^ (a / D.binade - 1) = D.binade * 2 ^ (a / D.binade) := by
        rw [Nat.mul_comm 2, Nat.mul_assoc, ← Nat.pow_succ', show (a / D.binade - 1).succ = a / D.binade by omega]
      have h3 : D.binade * 2 ^ (a / D.binade) ≤ D.binade * 2 ^ (b / D.binade - 1) := Nat.mul_le_mul_left _ (Nat.pow_le_pow_right (by omega) (by omega))
      have h4 : D.binade * 2 ^ (b / D.binade - 1) ≤ (D.binade + b % D.binade) * 2 ^ (b / D.binade - 1) := Nat.mul_le_mul_right _ (Nat.le_add_right _ _)
      omega
    · have e : a / D.binade = b / D.binade := Nat.le_antisymm hq hge
      have hm : a % D.binade < b % D.binade := by rw [e] at ea; omega
      rw [e]; exact Nat.mul_lt_mul_of_pos_right (by omega) (Nat.two_pow_pos _)
def sgn (x : Nat) : Bool := x / D.signWeight % 2 == 1
def rng (x : Nat) : Nat := x % D.signWeight
def key (x : Nat) : Int := if sgn x then -((rng x : Nat) : Int) else ((rng x : Nat) : Int)
def kv (x : Nat) : Int := if sgn x then -((val (rng x) : Nat) : Int) else ((val (rng x) : Nat) : Int)
theorem kv_key (x y : Nat) : compare (kv x) (kv y) = compare (key x) (key y) := by
  have mono : ∀ a b : Nat, val a < val b ↔ a < b := fun a b => ⟨fun h => by
    rcases Nat.lt_trichotomy a b with q | q | q
    · exact q
    · subst q; omega
    · have := val_mono q; omega, val_mono⟩
  have eqv : ∀ a b : Nat, val a = val b ↔ a = b := fun a b => ⟨fun h => by
    rcases Nat.lt_trichotomy a b with q | q | q
    · have := val_mono q; omega
    · exact q
    · have := val_mono q; omega, fun h => by rw [h]⟩
  have v0 : val 0 = 0 := by unfold val; rw [if_pos (by rw [D_bin]; omega)]
  have pos : ∀ a : Nat, 0 < val a ↔ 0 < a := fun a => by rw [← v0, mono]; rw [v0]
  have m1 := mono (rng x) (rng y)
  have m2 := mono (rng y) (rng x)
  have e1 := eqv (rng x) (rng y)
  have p1 := pos (rng x)
  have p2 := pos (rng y)
  rw [cmp_int, cmp_int]
  unfold kv key
  cases sgn x <;> cases sgn y <;> simp only [Bool.false_eq_true, if_false, if_true]
  · congr 1
    · exact propext ⟨fun h => by omega, fun h => by omega⟩
    · congr 1; exact propext ⟨fun h => by omega, fun h => by omega⟩
  · congr 1
    · exact propext ⟨fun h => by omega, fun h => by omega⟩
    · congr 1; exact propext ⟨fun h => by omega, fun h => by omega⟩
  · congr 1
    · exact propext ⟨fun h => by omega, fun h => by omega⟩
    · congr 1; exact propext ⟨fun h => by omega, fun h => by omega⟩
  · congr 1
    · exact propext ⟨fun h => by omega, fun h => by omega⟩
    · congr 1; exact propext ⟨fun h => by omega, fun h => by omega⟩
end Go.Flt
