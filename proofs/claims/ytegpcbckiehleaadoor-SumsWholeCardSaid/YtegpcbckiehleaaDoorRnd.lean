/- Rounding of the model's floats: what is nearest lies where the exact result lies, as against any float. Seat-free. -/
import Derived.Test.YtegpcbckiehleaaDoorSOp2
namespace Go.Flt
open Ieee
theorem val_le {a b : Nat} : val a ≤ val b ↔ a ≤ b := ⟨fun h => by
    rcases Nat.lt_or_ge b a with q | q
    · have := val_mono q; omega
    · exact q, fun h => by
    rcases Nat.lt_or_eq_of_le h with q | q
    · exact Nat.le_of_lt (val_mono q)
    · rw [q]; exact Nat.le_refl _⟩
theorem val_zero : val 0 = 0 := by unfold val; rw [if_pos (by rw [D_bin]; omega)]
/-- the cut to a whole number lies between whole numbers as the exact one does -/
theorem cut_lo {s : Bool} {n d t : Nat} (h : t * 2 ^ d ≤ n) : t ≤ Toward.even.cut s n d := by
  unfold Toward.cut
  simp only [Nat.one_shiftLeft]
  have hm : n < 2 ^ (n.log2 + 1) := Nat.lt_log2_self
  have hle : t ≤ n / 2 ^ min d (n.log2 + 2) := by
    rw [Nat.le_div_iff_mul_le (Nat.two_pow_pos _)]
    rcases Nat.le_total d (n.log2 + 2) with q | q
    · rw [Nat.min_eq_left q]; exact h
    · rcases Nat.eq_zero_or_pos t with rfl | ht
      · simp
      · exfalso
        have h1 : 2 ^ (n.log2 + 1) ≤ 2 ^ d := Nat.pow_le_pow_right (by omega) (by omega)
        have h2 : 1 * 2 ^ d ≤ t * 2 ^ d := Nat.mul_le_mul_right _ ht
        omega
  omega
theorem cut_hi {s : Bool} {n d t : Nat} (h : n ≤ t * 2 ^ d) : Toward.even.cut s n d ≤ t := by
  unfold Toward.cut
  simp only [Nat.one_shiftLeft]
  have hm : n < 2 ^ (n.log2 + 1) := Nat.lt_log2_self
  rcases Nat.le_total d (n.log2 + 2) with q | q
  · rw [Nat.min_eq_left q]
    have hp := Nat.two_pow_pos d
    have e := Nat.div_add_mod n (2 ^ d)
    have hlt := Nat.mod_lt n hp
    have hle : n / 2 ^ d ≤ t := Nat.div_le_of_le_mul (by rw [Nat.mul_comm]; exact h)
    rcases Nat.lt_or_eq_of_le hle with g | g
    · have hb : ∀ b : Bool, b.toNat ≤ 1 := fun b => by cases b <;> decide
      have := hb (decide (2 ^ d < 2 * (n % 2 ^ d)) || (2 ^ d == 2 * (n % 2 ^ d) && n / 2 ^ d % 2 == 1))
      omega
    · have hr : n % 2 ^ d = 0 := by
        rw [← g] at h
        rw [Nat.mul_comm] at h
        omega
      rw [hr]
      have h1 : decide (2 ^ d < 2 * 0) = false := by simp
      have h2 : (2 ^ d == 2 * 0) = false := by simp
      rw [h1, h2]
      simp only [Bool.false_and, Bool.or_false, Bool.toNat_false]
      omega
  · rw [Nat.min_eq_right q]
    have h1 : 2 ^ (n.log2 + 2) = 2 * 2 ^ (n.log2 + 1) := by rw [Nat.pow_succ, Nat.mul_comm]
    have h2 : n / 2 ^ (n.log2 + 2) = 0 := Nat.div_eq_of_lt (by omega)
    have h3 : n % 2 ^ (n.log2 + 2) = n := Nat.mod_eq_of_lt (by omega)
    rw [h2, h3]
    have h4 : decide (2 ^ (n.log2 + 2) < 2 * n) = false := by simp; omega
    have h5 : (2 ^ (n.log2 + 2) == 2 * n) = false := by simp; omega
    rw [h4, h5]
    simp
theorem val_rung {L k : Nat} (h1 : k ≤ 2 * D.binade) (h2 : L = 0 ∨ D.binade ≤ k) : val (L * D.binade + k) = k * 2 ^ L := by
  have hB : 0 < D.binade := by rw [D_bin]; omega
  unfold val
  generalize D.binade = B at *
  by_cases hk : k < B
  · obtain rfl : L = 0 := by omega
    rw [if_pos (by omega)]; simp
  · rw [if_neg (by have : 0 ≤ L * B := Nat.zero_le _; omega)]
    by_cases h3 : k = 2 * B
    · subst h3
      have e1 : (L * B + 2 * B) = B * (L + 2) := by rw [Nat.mul_add, Nat.mul_comm L B]; omega
      rw [e1, Nat.mul_mod_right, Nat.mul_div_cancel_left _ hB, show L + 2 - 1 = L + 1 by omega, Nat.pow_succ]
      rw [Nat.add_zero, Nat.mul_comm (2 ^ L) 2, ← Nat.mul_assoc, Nat.mul_comm B 2]
    · have e1 : (L * B + k) = (k - B) + B * (L + 1) := by rw [Nat.mul_add, Nat.mul_comm L B]; omega
      rw [e1, Nat.add_mul_mod_self_left, Nat.add_mul_div_left _ _ hB, Nat.mod_eq_of_lt (by omega), Nat.div_eq_of_lt (by omega), show 0 + (L + 1) - 1 = L by omega, show B + (k - B) = k by omega]
/-- a float's magnitude is a multiple of a power of two, or is small against it -/
theorem val_mult (r L : Nat) : (∃ s, val r = s * 2 ^ L) ∨ (0 < L ∧ val r < D.binade * 2 ^ L) := by
  have hB : 0 < D.binade := by rw [D_bin]; omega
  unfold val
  generalize D.binade = B at *
  by_cases hr : r < B
  · rw [if_pos hr]
    rcases Nat.eq_zero_or_pos L with rfl | h
    · exact .inl ⟨r, by simp⟩
    · refine .inr ⟨h, ?_⟩
      have : B * 1 ≤ B * 2 ^ L := Nat.mul_le_mul_left _ (Nat.two_pow_pos _)
      omega
  · rw [if_neg hr]
    rcases Nat.lt_or_ge (r / B - 1) L with h | h
    · refine .inr ⟨by omega, ?_⟩
      have hm := Nat.mod_lt r hB
      have h1 : (B + r % B) * 2 ^ (r / B - 1) < (2 * B) * 2 ^ (r / B - 1) := Nat.mul_lt_mul_of_pos_right (by omega) (Nat.two_pow_pos _)
      have h2 : (2 * B) * 2 ^ (r / B - 1) = B * 2 ^ (r / B - 1 + 1) := by rw [Nat.pow_succ, Nat.mul_comm (2 ^ _) 2, ← Nat.mul_assoc, Nat.mul_comm B 2]
      have h3 : B * 2 ^ (r / B - 1 + 1) ≤ B * 2 ^ L := Nat.mul_le_mul_left _ (Nat.pow_le_pow_right (by omega) (by omega))
      omega
    · refine .inl ⟨(B + r % B) * 2 ^ (r / B - 1 - L), ?_⟩
      rw [Nat.mul_assoc, ← Nat.pow_add, Nat.sub_add_cancel h]
theorem pow_swap {L u b a d : Nat} (h : L + u + b = a + d) (m : Nat) : m * 2 ^ u * 2 ^ (L + b) = m * 2 ^ a * 2 ^ d := by
  rw [Nat.mul_assoc, Nat.mul_assoc, ← Nat.pow_add, ← Nat.pow_add]; congr 2; omega
/-- the rounding of 'mag * 2 ^ a / 2 ^ b', in units of the least place: on no side of a float on which the exact result is not -/
theorem near {neg : Bool} {mag a b : Nat} {place : Int} (h : place + b = D.leastPlace + a) : ∃ R, R ≤ D.infRung ∧ D.nearest neg mag place = D.word neg R ∧ (∀ r, r ≤ D.infRung → val r * 2 ^ b ≤ mag * 2 ^ a → r ≤ R) ∧ ∀ r, mag * 2 ^ a ≤ val r * 2 ^ b → R ≤ r := by
  unfold Format.nearest
  by_cases h0 : mag = 0
  · rw [if_pos h0]
    refine ⟨0, Nat.zero_le _, rfl, fun r _ hr => ?_, fun r _ => Nat.zero_le _⟩
    rw [h0, Nat.zero_mul] at hr
    have hp := Nat.two_pow_pos b
    have h1 : val r = 0 := by
      rcases Nat.eq_zero_or_pos (val r) with q | q
      · exact q
      · have := Nat.mul_pos q hp; omega
    rw [← val_le, h1]; exact Nat.zero_le _
  · rw [if_neg h0]
    have hlg1 : 2 ^ mag.log2 ≤ mag := Nat.log2_self_le h0
    have hlg2 : mag < 2 ^ (mag.log2 + 1) := Nat.lt_log2_self
    generalize mag.log2 = g at *
    have hfb : (D.fractionBits : Int) = 52 := rfl
    have hB : D.binade = 2 ^ 52 := rfl
    generalize hlast : max (place + (g : Int) - (D.fractionBits : Int)) D.leastPlace = last
    have hl1 : D.leastPlace ≤ last := by omega
    show ∃ R, R ≤ D.infRung ∧ D.word neg (min ((last - D.leastPlace).toNat * D.binade + Toward.even.cut neg (mag <<< (place - last).toNat) (last - place).toNat) D.infRung) = D.word neg R ∧ _
    generalize hL : (last - D.leastPlace).toNat = L
    generalize hu : (place - last).toNat = u
    generalize hd : (last - place).toNat = d
    have hbal : L + u + b = a + d := by omega
    rw [Nat.shiftLeft_eq]
    generalize hK : Toward.even.cut neg (mag * 2 ^ u) d = K
    have klo : ∀ t, t * 2 ^ d ≤ mag * 2 ^ u → t ≤ K := fun t ht => by rw [← hK]; exact cut_lo ht
    have khi : ∀ t, mag * 2 ^ u ≤ t * 2 ^ d → K ≤ t := fun t ht => by rw [← hK]; exact cut_hi ht
    have k1 : K ≤ 2 * D.binade := by
      refine khi _ ?_
      rw [hB, show 2 * 2 ^ 52 = 2 ^ 53 by decide, ← Nat.pow_add]
      refine Nat.le_trans (Nat.mul_le_mul_right _ (Nat.le_of_lt hlg2)) ?_
      rw [← Nat.pow_add]
      exact Nat.pow_le_pow_right (by omega) (by omega)
    have k2 : L = 0 ∨ (D.binade ≤ K ∧ D.binade * 2 ^ d ≤ mag * 2 ^ u) := by
      rcases Nat.eq_zero_or_pos L with q | q
      · exact .inl q
      · have hz : D.binade * 2 ^ d ≤ mag * 2 ^ u := by
          rw [hB, ← Nat.pow_add]
          refine Nat.le_trans ?_ (Nat.mul_le_mul_right _ hlg1)
          rw [← Nat.pow_add]
          exact Nat.pow_le_pow_right (by omega) (by omega)
        exact .inr ⟨klo _ hz, hz⟩
    have hv : val (L * D.binade + K) = K * 2 ^ L := val_rung k1 (k2.imp id And.left)
    have pd := Nat.two_pow_pos d
    have pb := Nat.two_pow_pos b
    have pLb := Nat.two_pow_pos (L + b)
    refine ⟨min (L * D.binade + K) D.infRung, Nat.min_le_right _ _, rfl, fun r hr hle => ?_, fun r hle => ?_⟩
    · refine Nat.le_min.2 ⟨?_, hr⟩
      rw [← val_le, hv]
      rcases val_mult r L with ⟨s, hs⟩ | ⟨hp, hs⟩
      · rw [hs]
        refine Nat.mul_le_mul_right _ (klo s ?_)
        rw [hs] at hle
        have h1 := Nat.mul_le_mul_right (2 ^ d) hle
        rw [← pow_swap hbal mag] at h1
        rw [show s * 2 ^ L * 2 ^ b * 2 ^ d = s * 2 ^ d * 2 ^ (L + b) by rw [Nat.pow_add]; simp only [Nat.mul_assoc, Nat.mul_comm, Nat.mul_left_comm]] at h1
        exact Nat.le_of_mul_le_mul_right h1 pLb
      · refine Nat.le_trans (Nat.le_of_lt hs) (Nat.mul_le_mul_right _ ?_)
        rcases k2 with q | q
        · omega
        · exact q.1
    · refine Nat.le_trans (Nat.min_le_left _ _) ?_
      rw [← val_le, hv]
      rcases val_mult r L with ⟨s, hs⟩ | ⟨hp, hs⟩
      · rw [hs]
        refine Nat.mul_le_mul_right _ (khi s ?_)
        rw [hs] at hle
        have h1 := Nat.mul_le_mul_right (2 ^ d) hle
        rw [← pow_swap hbal mag] at h1
        rw [show s * 2 ^ L * 2 ^ b * 2 ^ d = s * 2 ^ d * 2 ^ (L + b) by rw [Nat.pow_add]; simp only [Nat.mul_assoc, Nat.mul_comm, Nat.mul_left_comm]] at h1
        exact Nat.le_of_mul_le_mul_right h1 pLb
      · exfalso
        rcases k2 with q | ⟨_, q⟩
        · omega
        · have h1 := Nat.mul_le_mul_right (2 ^ d) hle
          rw [← pow_swap hbal mag] at h1
          have h2 := Nat.mul_le_mul_right (2 ^ (L + b)) q
          have h3 : val r * (2 ^ b * 2 ^ d) < D.binade * 2 ^ L * (2 ^ b * 2 ^ d) := Nat.mul_lt_mul_of_pos_right hs (Nat.mul_pos pb pd)
          have h4 : D.binade * 2 ^ L * (2 ^ b * 2 ^ d) = D.binade * 2 ^ d * 2 ^ (L + b) := by rw [Nat.pow_add]; simp only [Nat.mul_assoc, Nat.mul_comm, Nat.mul_left_comm]
          rw [show val r * 2 ^ b * 2 ^ d = val r * (2 ^ b * 2 ^ d) from Nat.mul_assoc _ _ _] at h1
          exact absurd (Nat.lt_of_le_of_lt (Nat.le_trans h2 h1) h3) (by rw [h4]; exact Nat.lt_irrefl _)
theorem pw_ex : ∃ f : Nat → Nat, ∀ e, f e = 2 ^ e := ⟨_, fun _ => rfl⟩
/-- a power of two, which nothing reckons -/
noncomputable def pw : Nat → Nat := Classical.choose pw_ex
theorem pw_eq (e : Nat) : pw e = 2 ^ e := Classical.choose_spec pw_ex e
theorem pw_pos (e : Nat) : 0 < pw e := by rw [pw_eq]; exact Nat.two_pow_pos e
theorem pw_zero : pw 0 = 1 := by rw [pw_eq]
theorem pw_int (e : Nat) : ((pw e : Nat) : Int) = (2 : Int) ^ e := by rw [pw_eq, Int.natCast_pow]; rfl
theorem pw_join {a b c : Nat} (h : a + b = c) : pw a * pw b = pw c := by rw [pw_eq, pw_eq, pw_eq, ← h, Nat.pow_add]
theorem pw_low {a c i : Nat} (h : i ≤ 2 ^ a) (b : Nat) (hc : a + b = c) : i * pw b ≤ pw c := by rw [← pw_join hc, pw_eq a]; exact Nat.mul_le_mul_right _ h
theorem swap_le {c e n t : Nat} (h : t ≤ n * c) : t * pw e ≤ c * pw e * n := by
  rw [Nat.mul_right_comm, Nat.mul_comm c n]; exact Nat.mul_le_mul_right _ h
theorem swap_ge {c e n t : Nat} (h : n * c ≤ t) : c * pw e * n ≤ t * pw e := by
  rw [Nat.mul_right_comm, Nat.mul_comm c n]; exact Nat.mul_le_mul_right _ h
theorem zero_pw (e : Nat) : ((0 * pw e : Nat) : Int) = 0 := by rw [Nat.zero_mul]; rfl
theorem sq_ge {a b c k : Nat} (h : a + b = c + c) (hl : pw c ≤ k) : pw a * pw b ≤ k * k := Nat.le_trans (Nat.le_of_eq (by rw [pw_join h, ← pw_join (a := c) (b := c) rfl])) (Nat.mul_le_mul hl hl)
theorem sq_le {a b c k : Nat} (h : a + b = c + c) (hl : k ≤ pw c) : k * k ≤ pw a * pw b := Nat.le_trans (Nat.mul_le_mul hl hl) (Nat.le_of_eq (by rw [pw_join h, ← pw_join (a := c) (b := c) rfl]))
theorem zmul (e n : Nat) : 0 * pw e ≤ 0 * pw e * n := by rw [Nat.zero_mul]; exact Nat.zero_le _
theorem cast_scale {a c : Nat} (e : Nat) (h : a ≤ c) : ((a * pw e : Nat) : Int) ≤ ((c * pw e : Nat) : Int) := Int.ofNat_le.2 (Nat.mul_le_mul_right _ h)
theorem cast_mul (V e : Nat) : ((V : Nat) : Int) * ((pw e : Nat) : Int) = ((V * pw e : Nat) : Int) := (Int.natCast_mul _ _).symm
theorem quo_up {V A n : Nat} (e : Nat) (h : V ≤ A) (hn : 0 < n) : ((V : Nat) : Int) * ((pw e : Nat) : Int) ≤ ((A : Nat) : Int) * ((n * pw e : Nat) : Int) := by
  rw [cast_mul, ← Int.natCast_mul]; exact Int.ofNat_le.2 (Nat.mul_le_mul h (Nat.le_mul_of_pos_left _ hn))
/-- a whole number times a power of two is a float's magnitude -/
theorem rep (e : Nat) : ∀ c, c < 2 * D.binade → ∃ r, r < (e + 2) * D.binade ∧ val r = c * 2 ^ e := by
  have hB : 0 < D.binade := by rw [D_bin]; omega
  induction e with
  | zero =>
    intro c hc
    refine ⟨c, by omega, ?_⟩
    have := val_rung (L := 0) (k := c) (by omega) (.inl rfl)
    simpa using this
  | succ e ih =>
    intro c hc
    rcases Nat.lt_or_ge c D.binade with h | h
    · obtain ⟨r, h1, h2⟩ := ih (2 * c) (by omega)
      exact ⟨r, by rw [show e + 1 + 2 = (e + 2) + 1 by omega, Nat.add_mul (e + 2) 1]; omega, by rw [h2, Nat.pow_succ]; simp only [Nat.mul_assoc, Nat.mul_comm]⟩
    · refine ⟨(e + 1) * D.binade + c, ?_, val_rung (by omega) (.inr h)⟩
      rw [show e + 1 + 2 = (e + 1) + 2 by omega, Nat.add_mul (e + 1) 2]; omega
theorem val_multP (r L : Nat) : (∃ s, val r = s * pw L) ∨ (0 < L ∧ val r < D.binade * pw L) := by rw [pw_eq]; exact val_mult r L
theorem bin_pw (e : Nat) : D.binade * pw e = pw (52 + e) := by rw [← pw_join (a := 52) (b := e) rfl, pw_eq 52]; rfl
/-- a number that is no infinity and no NaN -/
def Fin (x : Nat) : Prop := NN x ∧ rng x < D.infRung
theorem Fin.read {x : Nat} (h : Fin x) : ∃ m k : Nat, D.read x = .number (sgn x) m (D.leastPlace + (k : Nat)) ∧ val (rng x) = m * 2 ^ k := by
  rcases read_kv h.1 with ⟨_, r⟩ | ⟨q, _⟩
  · exact r
  · have := h.2; omega
theorem kv_abs (x : Nat) : (kv x).natAbs = val (rng x) := by
  unfold kv
  split <;> omega
/-- x is what z / 2 ^ b is rounded to, in units of the least place -/
def Rnd (z : Int) (b : Nat) (x : Nat) : Prop := ∃ neg R, R ≤ D.infRung ∧ x = D.word neg R ∧ (∀ r, r ≤ D.infRung → val r * pw b ≤ z.natAbs → r ≤ R) ∧ (∀ r, z.natAbs ≤ val r * pw b → R ≤ r) ∧ (z ≠ 0 → neg = decide (z < 0))
section
variable {z : Int} {b x : Nat}
theorem inf_sw {R : Nat} (h : R ≤ D.infRung) : R < D.signWeight := by rw [D_inf] at h; rw [D_sw]; omega
theorem Rnd.nn (h : Rnd z b x) : NN x := by
  obtain ⟨neg, R, hR, rfl, _⟩ := h
  exact word_NN hR
theorem Rnd.abs_le {r : Nat} (h : Rnd z b x) (hz : z.natAbs ≤ val r * pw b) : (kv x).natAbs ≤ val r := by
  obtain ⟨neg, R, hR, rfl, _, h2, _⟩ := h
  rw [kv_abs, (word_lt neg R (inf_sw hR)).2, val_le]
  exact h2 r hz
theorem Rnd.abs_ge {r : Nat} (h : Rnd z b x) (hr : r ≤ D.infRung) (hz : val r * pw b ≤ z.natAbs) : val r ≤ (kv x).natAbs := by
  obtain ⟨neg, R, hR, rfl, h1, _, _⟩ := h
  rw [kv_abs, (word_lt neg R (inf_sw hR)).2, val_le]
  exact h1 r hr hz
theorem Rnd.fin {r : Nat} (h : Rnd z b x) (hr : r < D.infRung) (hz : z.natAbs ≤ val r * pw b) : Fin x := by
  refine ⟨h.nn, ?_⟩
  have h1 := h.abs_le hz
  rw [kv_abs, val_le] at h1
  omega
theorem Rnd.zero (h : Rnd 0 b x) : kv x = 0 := by
  have h1 := h.abs_le (r := 0) (by simp)
  rw [val_zero] at h1; omega
theorem Rnd.nonneg (h : Rnd z b x) (hz : 0 ≤ z) : 0 ≤ kv x := by
  by_cases h0 : z = 0
  · subst h0; rw [h.zero]; exact Int.le_refl _
  · obtain ⟨neg, R, hR, rfl, _, _, h3⟩ := h
    have hn : neg = false := by rw [h3 h0]; simp; omega
    subst hn
    unfold kv
    rw [(word_lt false R (inf_sw hR)).1]
    simp only [Bool.false_eq_true, if_false]; omega
theorem Rnd.nonpos (h : Rnd z b x) (hz : z ≤ 0) : kv x ≤ 0 := by
  by_cases h0 : z = 0
  · subst h0; rw [h.zero]; exact Int.le_refl _
  · obtain ⟨neg, R, hR, rfl, _, _, h3⟩ := h
    have hn : neg = true := by rw [h3 h0]; simp; omega
    subst hn
    unfold kv
    rw [(word_lt true R (inf_sw hR)).1]
    simp only [if_true]; omega
/-- as against a float that is not negative -/
theorem Rnd.le {r : Nat} (h : Rnd z b x) (h0 : 0 ≤ z) (hz : z ≤ ((val r * pw b : Nat) : Int)) : kv x ≤ (val r : Nat) := by
  have h1 := h.abs_le (r := r) (by omega)
  have := h.nonneg h0
  omega
theorem Rnd.ge {r : Nat} (h : Rnd z b x) (hr : r ≤ D.infRung) (h0 : 0 ≤ z) (hz : ((val r * pw b : Nat) : Int) ≤ z) : ((val r : Nat) : Int) ≤ kv x := by
  have h1 := h.abs_ge (r := r) hr (by omega)
  have := h.nonneg h0
  omega
end
theorem rnd_near {neg : Bool} {mag a b : Nat} {place : Int} {z : Int} (h : place + b = D.leastPlace + a) (hz : z.natAbs = mag * 2 ^ a) (hn : z ≠ 0 → neg = decide (z < 0)) : Rnd z b (D.nearest neg mag place) := by
  obtain ⟨R, h1, h2, h3, h4⟩ := near (neg := neg) (mag := mag) h
  exact ⟨neg, R, h1, h2, fun r hr hle => h3 r hr (by rw [pw_eq, hz] at hle; exact hle), fun r hle => h4 r (by rw [pw_eq, hz] at hle; exact hle), hn⟩
/-! the operations -/
theorem nearest_sgn (neg : Bool) (mag : Nat) (place : Int) : sgn (D.nearest neg mag place) = neg := by
  obtain ⟨R, hR, hw, _⟩ := near (neg := neg) (mag := mag) (a := (place - D.leastPlace).toNat) (b := (D.leastPlace - place).toNat) (place := place) (by omega)
  rw [hw]; exact (word_lt neg R (inf_sw hR)).1
theorem signed_abs (s : Bool) (m u : Nat) : (signed s m u).natAbs = m * 2 ^ u := by
  unfold signed; rw [Nat.shiftLeft_eq]; split <;> omega
theorem Fin.kv {x m k : Nat} (h2 : val (rng x) = m * 2 ^ k) : Flt.kv x = signed (sgn x) m k := (signed_kv h2).symm
theorem sum_int (s t : Bool) (m n k k' : Nat) : (signed s m (k - min k k') + signed t n (k' - min k k')) * ((2 ^ min k k' : Nat) : Int) = signed s m k + signed t n k' := by
  rw [Int.add_mul, ← signed_shift, ← signed_shift, Nat.sub_add_cancel (Nat.min_le_left _ _), Nat.sub_add_cancel (Nat.min_le_right _ _)]
theorem sum_rnd {s t : Bool} {m n k k' : Nat} {z : Int} (hz : z = signed s m k + signed t n k') : ∃ r, ((Datum.number s m (D.leastPlace + (k : Nat))).sum (.number t n (D.leastPlace + (k' : Nat)))).map D.write = some r ∧ Rnd z 0 r ∧ (s = false → t = false → sgn r = false) := by
  unfold Datum.sum
  refine ⟨_, rfl, ?_, fun hs ht => ?_⟩
  rotate_left
  · subst hs; subst ht
    refine (nearest_sgn _ _ _).trans ?_
    split
    · rfl
    · refine decide_eq_false fun h => ?_
      have hsg : ∀ m u, 0 ≤ signed false m u := fun m u => Int.natCast_nonneg (m <<< u)
      have h1 := hsg m ((D.leastPlace + (k : Int) - min (D.leastPlace + (k : Int)) (D.leastPlace + (k' : Int))).toNat)
      have h2 := hsg n ((D.leastPlace + (k' : Int) - min (D.leastPlace + (k : Int)) (D.leastPlace + (k' : Int))).toNat)
      omega
  have e1 : (D.leastPlace + (k : Int) - min (D.leastPlace + (k : Int)) (D.leastPlace + (k' : Int))).toNat = k - min k k' := by omega
  have e2 : (D.leastPlace + (k' : Int) - min (D.leastPlace + (k : Int)) (D.leastPlace + (k' : Int))).toNat = k' - min k k' := by omega
  simp only [e1, e2]
  have hT := sum_int s t m n k k'
  rw [← hz] at hT
  generalize signed s m (k - min k k') + signed t n (k' - min k k') = T at *
  have hp := Nat.two_pow_pos (min k k')
  generalize hmin : min k k' = q at *
  refine rnd_near (a := q) (by omega) ?_ fun h0 => ?_
  · rw [← hT, Int.natAbs_mul, Int.natAbs_natCast]
  · have hT0 : T ≠ 0 := fun e => h0 (by rw [← hT, e, Int.zero_mul])
    rw [if_neg hT0]
    refine decide_eq_decide.2 ⟨fun h => ?_, fun h => ?_⟩
    · rw [← hT]; exact Int.mul_neg_of_neg_of_pos h (by omega)
    · by_cases g : T < 0
      · exact g
      · have g : 0 ≤ T := by omega
        have := Int.mul_nonneg g (show (0 : Int) ≤ ((2 ^ q : Nat) : Int) by omega)
        omega
theorem add_rnd {x y : Nat} (hx : Fin x) (hy : Fin y) : ∃ r, D.add x y = some r ∧ Rnd (kv x + kv y) 0 r ∧ (sgn x = false → sgn y = false → sgn r = false) := by
  obtain ⟨m, k, e1, v1⟩ := hx.read
  obtain ⟨n, k', e2, v2⟩ := hy.read
  unfold Format.add
  rw [e1, e2]
  exact sum_rnd (by rw [Fin.kv v1, Fin.kv v2])
theorem sub_rnd {x y : Nat} (hx : Fin x) (hy : Fin y) : ∃ r, D.sub x y = some r ∧ Rnd (kv x - kv y) 0 r := by
  obtain ⟨m, k, e1, v1⟩ := hx.read
  obtain ⟨n, k', e2, v2⟩ := hy.read
  unfold Format.sub
  rw [e1, e2]
  unfold Datum.opposite
  suffices h : kv x - kv y = signed (sgn x) m k + signed (!sgn y) n k' by
    obtain ⟨r, h1, h2, _⟩ := sum_rnd h
    exact ⟨r, h1, h2⟩
  rw [Fin.kv v1, Fin.kv v2]
  have : signed (!sgn y) n k' = - signed (sgn y) n k' := by
    unfold signed; cases sgn y <;> simp
  rw [this]; omega
theorem mul_rnd {x y : Nat} (hx : Fin x) (hy : Fin y) : ∃ r, D.mul x y = some r ∧ Rnd (kv x * kv y) 1074 r ∧ sgn r = (sgn x ^^ sgn y) := by
  obtain ⟨m, k, e1, v1⟩ := hx.read
  obtain ⟨n, k', e2, v2⟩ := hy.read
  unfold Format.mul
  rw [e1, e2]
  unfold Datum.product
  refine ⟨_, rfl, ?_, nearest_sgn _ _ _⟩
  have hlp := D_lp
  refine rnd_near (a := k + k') (by omega) ?_ fun h0 => ?_
  · rw [Int.natAbs_mul, kv_abs, kv_abs, v1, v2, Nat.pow_add]; simp only [Nat.mul_assoc, Nat.mul_left_comm]
  · rw [Fin.kv v1, Fin.kv v2] at h0 ⊢
    unfold signed at h0 ⊢
    rw [Nat.shiftLeft_eq, Nat.shiftLeft_eq] at h0 ⊢
    generalize m * 2 ^ k = A at *
    generalize n * 2 ^ k' = B at *
    have hA : A ≠ 0 := fun e => h0 (by subst e; split <;> simp)
    have hB : B ≠ 0 := fun e => h0 (by subst e; simp)
    have hAB := Nat.mul_pos (Nat.pos_of_ne_zero hA) (Nat.pos_of_ne_zero hB)
    have hAB2 : (0 : Int) < (A : Int) * (B : Int) := by exact_mod_cast hAB
    cases sgn x <;> cases sgn y <;> simp [Int.neg_mul, Int.mul_neg] <;> omega
/-! the quotient -/
theorem cast_pow (V e : Nat) : ((V : Nat) : Int) * 2 ^ e = ((V * 2 ^ e : Nat) : Int) := by rw [Int.natCast_mul, Int.natCast_pow]; rfl
theorem quo_lo {D n T : Nat} (hn : 0 < n) (h : T * n ≤ 2 * D) : T ≤ 2 * (D / n) + (D % n != 0).toNat := by
  have e := Nat.div_add_mod D n
  have hm := Nat.mod_lt D hn
  generalize D / n = q at *
  by_cases h1 : T ≤ 2 * q
  · omega
  · have h2 : T = 2 * q + 1 ∨ 2 * q + 2 ≤ T := by omega
    rcases h2 with h2 | h2
    · have hr : D % n ≠ 0 := fun e0 => by
        rw [h2, Nat.add_mul, Nat.mul_assoc, Nat.mul_comm q n] at h
        omega
      have : (D % n != 0) = true := by simpa using hr
      rw [this]; simp; omega
    · exfalso
      have h3 := Nat.mul_le_mul_right n h2
      rw [Nat.add_mul, Nat.mul_assoc, Nat.mul_comm q n] at h3
      omega
theorem quo_hi {D n T : Nat} (hn : 0 < n) (h : 2 * D ≤ T * n) : 2 * (D / n) + (D % n != 0).toNat ≤ T := by
  have e := Nat.div_add_mod D n
  have hm := Nat.mod_lt D hn
  generalize D / n = q at *
  have hb : (D % n != 0).toNat ≤ 1 := by cases (D % n != 0) <;> decide
  by_cases h1 : 2 * q + 1 ≤ T
  · omega
  · have h2 : T ≤ 2 * q := by omega
    have h3 := Nat.mul_le_mul_right n h2
    rw [Nat.mul_assoc, Nat.mul_comm q n] at h3
    have hr : D % n = 0 := by omega
    have hT : 2 * q ≤ T := by
      rcases Nat.lt_or_ge T (2 * q) with g | g
      · exfalso
        have h4 : (T + 1) * n ≤ (2 * q) * n := Nat.mul_le_mul_right n g
        rw [Nat.add_mul, Nat.mul_assoc, Nat.mul_comm q n] at h4
        omega
      · exact g
    rw [hr]; simpa using hT
theorem Fin.mant {x m k : Nat} (h1 : D.read x = .number (sgn x) m (D.leastPlace + (k : Nat))) : m < 2 * D.binade := by
  have e : D.read x = if rng x < D.binade then .number (sgn x) (rng x) D.leastPlace else if rng x < D.infRung then .number (sgn x) (D.binade + rng x % D.binade) (D.leastPlace + (rng x / D.binade - 1 : Nat)) else if rng x = D.infRung then .infinity (sgn x) else .nan (sgn x) (rng x - D.infRung) := rfl
  have hB : 0 < D.binade := by rw [D_bin]; omega
  have hm := Nat.mod_lt (rng x) hB
  rw [e] at h1
  split at h1
  · injection h1 with _ h _; omega
  · split at h1
    · injection h1 with _ h _; omega
    · split at h1 <;> cases h1
/-- the quotient of what is not negative by what is above nought: on no side of a float on which the exact one is not -/
def Quo (a b : Int) (x : Nat) : Prop := NN x ∧ sgn x = false ∧ 0 ≤ kv x ∧ (∀ r, r ≤ D.infRung → ((val r : Nat) : Int) * b ≤ a * ((pw 1074 : Nat) : Int) → ((val r : Nat) : Int) ≤ kv x) ∧ ∀ r, a * ((pw 1074 : Nat) : Int) ≤ ((val r : Nat) : Int) * b → kv x ≤ (val r : Nat)
theorem div_quo {x y : Nat} (hx : Fin x) (hy : Fin y) (sx : sgn x = false) (sy : sgn y = false) (h0 : 0 < kv y) : ∃ r, D.div x y = some r ∧ Quo (kv x) (kv y) r := by
  obtain ⟨m, k, e1, v1⟩ := hx.read
  obtain ⟨n, k', e2, v2⟩ := hy.read
  have hm := Fin.mant e1
  have hkx : kv x = ((m * 2 ^ k : Nat) : Int) := by unfold kv; rw [sx, v1]; rfl
  have hky : kv y = ((n * 2 ^ k' : Nat) : Int) := by unfold kv; rw [sy, v2]; rfl
  have hn : 0 < n := by
    rcases Nat.eq_zero_or_pos n with q | q
    · subst q; rw [hky] at h0; simp at h0
    · exact q
  unfold Format.div
  rw [e1, e2, sx, sy]
  unfold Datum.quotient
  simp only
  rw [if_neg (by omega)]
  refine ⟨_, rfl, ?_⟩
  have hfb : D.fractionBits + 2 = 54 := rfl
  rw [hfb]
  generalize hmore : 54 + n.log2 - m.log2 = more
  rw [Nat.shiftLeft_eq]
  have hlp := D_lp
  obtain ⟨R, hR, hw, lo, hi⟩ := near (neg := (false ^^ false)) (mag := 2 * (m * 2 ^ more / n) + (m * 2 ^ more % n != 0).toNat) (a := k + 1074) (b := k' + more + 1) (place := D.leastPlace + (k : Int) - (D.leastPlace + (k' : Int)) - (more : Int) - 1) (by omega)
  show Quo _ _ (D.nearest _ _ _)
  rw [hw]
  have hneg : (false ^^ false) = false := rfl
  rw [hneg] at *
  have hkR : kv (D.word false R) = ((val R : Nat) : Int) := by
    unfold kv; rw [(word_lt false R (inf_sw hR)).1, (word_lt false R (inf_sw hR)).2]; rfl
  -- both sides brought to one
  have hbal : ∀ r, (((val r : Nat) : Int) * kv y ≤ kv x * 2 ^ 1074 ↔ val r * 2 ^ (k' + more + 1) * n ≤ 2 * (m * 2 ^ more) * 2 ^ (k + 1074)) ∧ (kv x * 2 ^ 1074 ≤ ((val r : Nat) : Int) * kv y ↔ 2 * (m * 2 ^ more) * 2 ^ (k + 1074) ≤ val r * 2 ^ (k' + more + 1) * n) := fun r => by
    have q1 : val r * 2 ^ (k' + more + 1) * n = val r * (n * 2 ^ k') * 2 ^ (more + 1) := by
      rw [Nat.add_assoc k', Nat.pow_add]; simp only [Nat.mul_assoc, Nat.mul_comm, Nat.mul_left_comm]
    have q2 : 2 * (m * 2 ^ more) * 2 ^ (k + 1074) = m * 2 ^ k * 2 ^ 1074 * 2 ^ (more + 1) := by
      rw [Nat.pow_add, Nat.pow_succ 2 more]; generalize 2 ^ 1074 = Z; simp only [Nat.mul_assoc, Nat.mul_comm, Nat.mul_left_comm]
    have hp := Nat.two_pow_pos (more + 1)
    have c1 : ((val r : Nat) : Int) * kv y = ((val r * (n * 2 ^ k') : Nat) : Int) := by rw [hky]; exact (Int.natCast_mul _ _).symm
    have c2 : kv x * 2 ^ 1074 = ((m * 2 ^ k * 2 ^ 1074 : Nat) : Int) := by rw [hkx]; exact cast_pow _ _
    rw [c1, c2, q1, q2]
    generalize val r * (n * 2 ^ k') = A
    generalize m * 2 ^ k * 2 ^ 1074 = B
    exact ⟨⟨fun h => Nat.mul_le_mul_right _ (by omega), fun h => by have := Nat.le_of_mul_le_mul_right h hp; omega⟩, ⟨fun h => Nat.mul_le_mul_right _ (by omega), fun h => by have := Nat.le_of_mul_le_mul_right h hp; omega⟩⟩
  have hbig : m ≠ 0 → D.binade * 2 * n < m * 2 ^ more := fun hm0 => by
    have l1 : 2 ^ m.log2 ≤ m := Nat.log2_self_le hm0
    have l2 : n < 2 ^ (n.log2 + 1) := Nat.lt_log2_self
    have l3 : m.log2 < 53 := (Nat.log2_lt hm0).2 (by have : D.binade = 2 ^ 52 := rfl; omega)
    have l4 : 2 ^ (n.log2 + 54) ≤ m * 2 ^ more := by
      refine Nat.le_trans ?_ (Nat.mul_le_mul_right _ l1)
      rw [← Nat.pow_add]
      exact Nat.pow_le_pow_right (by omega) (by omega)
    have l5 : 2 ^ (n.log2 + 54) = 2 ^ 53 * 2 ^ (n.log2 + 1) := by rw [← Nat.pow_add]; congr 1; omega
    have l6 : D.binade * 2 = 2 ^ 53 := rfl
    rw [l6]
    have := Nat.mul_lt_mul_of_pos_left l2 (show 0 < 2 ^ 53 by decide)
    omega
  generalize hA : m * 2 ^ more = A at *
  generalize hQ : 2 * (A / n) + (A % n != 0).toNat = Q at *
  have qlo : ∀ T, T * n ≤ 2 * A → T ≤ Q := fun T h => by rw [← hQ]; exact quo_lo hn h
  have qhi : ∀ T, 2 * A ≤ T * n → Q ≤ T := fun T h => by rw [← hQ]; exact quo_hi hn h
  have pb := Nat.two_pow_pos (k' + more + 1)
  have pa := Nat.two_pow_pos (k + 1074)
  refine ⟨word_NN hR, (word_lt false R (inf_sw hR)).1, by rw [hkR]; omega, fun r hr hle => ?_, fun r hle => ?_⟩
  · rw [hkR]
    rw [pw_int] at hle
    have h1 := (hbal r).1.1 hle
    have := val_le.2 (lo r hr ?_)
    · omega
    rcases Nat.le_total (k + 1074) (k' + more + 1) with g | g
    · obtain ⟨c, hc⟩ : ∃ c, k' + more + 1 = (k + 1074) + c := ⟨_, (Nat.add_sub_of_le g).symm⟩
      rw [hc, Nat.pow_add 2 (k + 1074) c] at h1 ⊢
      have e : val r * (2 ^ (k + 1074) * 2 ^ c) = val r * 2 ^ c * 2 ^ (k + 1074) := by rw [Nat.mul_comm (2 ^ (k + 1074)), ← Nat.mul_assoc]
      rw [e] at h1 ⊢
      refine Nat.mul_le_mul_right _ (qlo _ ?_)
      rw [Nat.mul_assoc, Nat.mul_comm _ n, ← Nat.mul_assoc] at h1
      exact Nat.le_of_mul_le_mul_right h1 pa
    · obtain ⟨c, hc⟩ : ∃ c, k + 1074 = (k' + more + 1) + c := ⟨_, (Nat.add_sub_of_le g).symm⟩
      rw [hc, Nat.pow_add 2 (k' + more + 1) c] at h1 ⊢
      rw [show Q * (2 ^ (k' + more + 1) * 2 ^ c) = Q * 2 ^ c * 2 ^ (k' + more + 1) by rw [Nat.mul_comm (2 ^ (k' + more + 1)), ← Nat.mul_assoc]]
      refine Nat.mul_le_mul_right _ ?_
      rw [show 2 * A * (2 ^ (k' + more + 1) * 2 ^ c) = 2 * A * 2 ^ c * 2 ^ (k' + more + 1) by rw [Nat.mul_comm (2 ^ (k' + more + 1)), ← Nat.mul_assoc], show val r * 2 ^ (k' + more + 1) * n = val r * n * 2 ^ (k' + more + 1) by rw [Nat.mul_assoc, Nat.mul_comm _ n, ← Nat.mul_assoc]] at h1
      have h2 := Nat.le_of_mul_le_mul_right h1 pb
      rcases val_mult r c with ⟨s, hs⟩ | ⟨hc0, hs⟩
      · rw [hs] at h2 ⊢
        rw [show s * 2 ^ c * n = s * n * 2 ^ c by rw [Nat.mul_assoc, Nat.mul_comm _ n, ← Nat.mul_assoc]] at h2
        exact Nat.mul_le_mul_right _ (qlo _ (Nat.le_of_mul_le_mul_right h2 (Nat.two_pow_pos c)))
      · rcases Nat.eq_zero_or_pos m with rfl | hm0
        · rw [Nat.zero_mul] at hA
          subst hA
          rw [Nat.mul_zero, Nat.zero_mul] at h2
          have h3 : val r = 0 := by
            rcases Nat.eq_zero_or_pos (val r) with q | q
            · exact q
            · have := Nat.mul_pos q hn; omega
          rw [h3]; exact Nat.zero_le _
        · refine Nat.le_trans (Nat.le_of_lt hs) (Nat.mul_le_mul_right _ (qlo _ ?_))
          have := hbig (by omega)
          rw [show D.binade * 2 * n = 2 * (D.binade * n) by rw [Nat.mul_comm D.binade 2, Nat.mul_assoc]] at this
          omega
  · rw [hkR]
    rw [pw_int] at hle
    have h1 := (hbal r).2.1 hle
    have := val_le.2 (hi r ?_)
    · omega
    rcases Nat.le_total (k + 1074) (k' + more + 1) with g | g
    · obtain ⟨c, hc⟩ : ∃ c, k' + more + 1 = (k + 1074) + c := ⟨_, (Nat.add_sub_of_le g).symm⟩
      rw [hc, Nat.pow_add 2 (k + 1074) c] at h1 ⊢
      have e : val r * (2 ^ (k + 1074) * 2 ^ c) = val r * 2 ^ c * 2 ^ (k + 1074) := by rw [Nat.mul_comm (2 ^ (k + 1074)), ← Nat.mul_assoc]
      rw [e] at h1 ⊢
      refine Nat.mul_le_mul_right _ (qhi _ ?_)
      rw [show val r * 2 ^ c * 2 ^ (k + 1074) * n = val r * 2 ^ c * n * 2 ^ (k + 1074) by rw [Nat.mul_assoc, Nat.mul_comm _ n, ← Nat.mul_assoc]] at h1
      exact Nat.le_of_mul_le_mul_right h1 pa
    · obtain ⟨c, hc⟩ : ∃ c, k + 1074 = (k' + more + 1) + c := ⟨_, (Nat.add_sub_of_le g).symm⟩
      rw [hc, Nat.pow_add 2 (k' + more + 1) c] at h1 ⊢
      rw [show Q * (2 ^ (k' + more + 1) * 2 ^ c) = Q * 2 ^ c * 2 ^ (k' + more + 1) by rw [Nat.mul_comm (2 ^ (k' + more + 1)), ← Nat.mul_assoc]]
      refine Nat.mul_le_mul_right _ ?_
      rw [show 2 * A * (2 ^ (k' + more + 1) * 2 ^ c) = 2 * A * 2 ^ c * 2 ^ (k' + more + 1) by rw [Nat.mul_comm (2 ^ (k' + more + 1)), ← Nat.mul_assoc], show val r * 2 ^ (k' + more + 1) * n = val r * n * 2 ^ (k' + more + 1) by rw [Nat.mul_assoc, Nat.mul_comm _ n, ← Nat.mul_assoc]] at h1
      have h2 := Nat.le_of_mul_le_mul_right h1 pb
      rcases val_mult r c with ⟨s, hs⟩ | ⟨hc0, hs⟩
      · rw [hs] at h2 ⊢
        rw [show s * 2 ^ c * n = s * n * 2 ^ c by rw [Nat.mul_assoc, Nat.mul_comm _ n, ← Nat.mul_assoc]] at h2
        exact Nat.mul_le_mul_right _ (qhi _ (Nat.le_of_mul_le_mul_right h2 (Nat.two_pow_pos c)))
      · rcases Nat.eq_zero_or_pos m with rfl | hm0
        · rw [Nat.zero_mul] at hA
          subst hA
          have h3 : Q = 0 := by
            have := qhi 0 (by simp)
            omega
          rw [h3, Nat.zero_mul]; exact Nat.zero_le _
        · exfalso
          have h4 := hbig (by omega)
          have h5 : val r * n < D.binade * 2 ^ c * n := Nat.mul_lt_mul_of_pos_right hs hn
          have h6 : D.binade * 2 ^ c * n = D.binade * n * 2 ^ c := by rw [Nat.mul_assoc, Nat.mul_comm _ n, ← Nat.mul_assoc]
          have h7 : D.binade * n * 2 ^ c ≤ 2 * A * 2 ^ c := Nat.mul_le_mul_right _ (by
            rw [show D.binade * 2 * n = 2 * (D.binade * n) by rw [Nat.mul_comm D.binade 2, Nat.mul_assoc]] at h4
            omega)
          omega
/-! the root -/
theorem sqrt_pos {x : Nat} (hx : Fin x) (sx : sgn x = false) : ∃ r, D.sqrt x = some r ∧ NN r ∧ (kv r = 0 ↔ kv x = 0) := by
  obtain ⟨m, k, e1, v1⟩ := hx.read
  have hm := Fin.mant e1
  have hkx : kv x = ((m * 2 ^ k : Nat) : Int) := by unfold kv; rw [sx, v1]; rfl
  unfold Format.sqrt
  rw [e1, sx]
  unfold Datum.root
  simp only
  by_cases h0 : m = 0
  · rw [if_pos h0]
    refine ⟨_, rfl, nearest_NN _ _ _, ?_⟩
    subst h0
    have : D.write (.number false 0 (D.leastPlace + (k : Int))) = 0 := rfl
    rw [this, hkx]
    simp
    decide +kernel
  · rw [if_neg h0, if_neg (by decide)]
    refine ⟨_, rfl, nearest_NN _ _ _, ?_⟩
    have hfb : 2 * (D.fractionBits + 2) = 108 := rfl
    rw [hfb]
    generalize hmore : 108 - m.log2 = mo
    have hlp := D_lp
    have hpar : ((D.leastPlace + (k : Int) - (mo : Int)) % 2).toNat ≤ 1 := by omega
    generalize ((D.leastPlace + (k : Int) - (mo : Int)) % 2).toNat = pr at *
    generalize Datum.rootFrom (m <<< (mo + pr)) ((m <<< (mo + pr)).log2 / 2 + 1) 0 = whole
    have hn0 : m <<< (mo + pr) ≠ 0 := by
      rw [Nat.shiftLeft_eq]
      have := Nat.mul_pos (Nat.pos_of_ne_zero h0) (Nat.two_pow_pos (mo + pr))
      omega
    generalize m <<< (mo + pr) = N at *
    have hQ : 1 ≤ 2 * whole + (whole * whole != N).toNat := by
      by_cases hw : whole = 0
      · subst hw
        have : (0 * 0 != N) = true := by simp; omega
        rw [this]; decide
      · omega
    generalize 2 * whole + (whole * whole != N).toNat = Q at *
    obtain ⟨R, hR, hw, lo, _⟩ := near (neg := false) (mag := Q) (a := ((D.leastPlace + (k : Int) - ((mo + pr : Nat) : Int)) / 2 - 1 - D.leastPlace).toNat) (b := 0) (place := (D.leastPlace + (k : Int) - ((mo + pr : Nat) : Int)) / 2 - 1) (by omega)
    show kv (D.nearest _ _ _) = 0 ↔ _
    rw [hw]
    have hkR : kv (D.word false R) = ((val R : Nat) : Int) := by
      unfold kv; rw [(word_lt false R (inf_sw hR)).1, (word_lt false R (inf_sw hR)).2]; rfl
    have h1 : val 1 = 1 := by unfold val; rw [if_pos (by rw [D_bin]; omega)]
    have hR1 : 1 ≤ R := lo 1 (by rw [D_inf]; omega) (by
      rw [h1]
      have := Nat.mul_pos hQ (Nat.two_pow_pos (((D.leastPlace + (k : Int) - ((mo + pr : Nat) : Int)) / 2 - 1 - D.leastPlace).toNat))
      omega)
    have h2 := val_le.2 hR1
    rw [hkR, hkx]
    have h3 := Nat.mul_pos (Nat.pos_of_ne_zero h0) (Nat.two_pow_pos k)
    omega
end Go.Flt
