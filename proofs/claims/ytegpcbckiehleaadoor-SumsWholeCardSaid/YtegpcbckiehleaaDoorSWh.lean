/- Whole numbers below 2 ^ 20, not more than a thousand: their sum, mean, spread, least and greatest, as the machine reckons them. Seat-free. -/
import Derived.Test.YtegpcbckiehleaaDoorRnd
import Derived.Test.YtegpcbckiehleaaDoorSAll
namespace Go.Eng
open Go.RowKit Go.OrdPure Go.Flt
/-- a float that is a whole number -/
def Wh (x n : Nat) : Prop := Flt.Fin x ∧ sgn x = false ∧ kv x = ((n * pw 1074 : Nat) : Int)
theorem FR.some {o : Option Nat} {r s : Nat} (h : FR o r) (e : o = some s) : r = s := by
  rcases h with h | ⟨h, _⟩
  · rw [e] at h; exact (Option.some.inj h).symm
  · rw [e] at h; cases h
theorem nab (X : Nat) : ((X : Nat) : Int).natAbs ≤ X * pw 0 := by rw [Int.natAbs_natCast, pw_zero, Nat.mul_one]; exact Nat.le_refl _
theorem nai (X : Nat) : ((X : Nat) : Int) ≤ ((X * pw 0 : Nat) : Int) := by rw [pw_zero, Nat.mul_one]; exact Int.le_refl _
theorem nai' (X : Nat) : ((X * pw 0 : Nat) : Int) ≤ ((X : Nat) : Int) := by rw [pw_zero, Nat.mul_one]; exact Int.le_refl _
theorem rep_n {n : Nat} (h : n < 2 ^ 53) (e : Nat) (he : e ≤ 1200) : ∃ r, r < Flt.D.infRung ∧ val r = n * pw e := by
  rw [pw_eq]
  obtain ⟨r, h1, h2⟩ := rep e n (by have : 2 * Flt.D.binade = 2 ^ 53 := rfl; omega)
  refine ⟨r, ?_, h2⟩
  have h3 : (e + 2) * Flt.D.binade ≤ 1202 * Flt.D.binade := Nat.mul_le_mul_right _ (by omega)
  have h4 : 1202 * Flt.D.binade < Flt.D.infRung := by rw [D_bin, D_inf]; decide
  omega
theorem wh_fromInt {n : Nat} (h : n < 2 ^ 53) : Wh (fromInt (n : Int)) n := by
  have e : fromInt (n : Int) = Flt.D.nearest false n 0 := by
    unfold fromInt FloatKind.nearest
    have h1 : decide ((n : Int) < 0) = false := by simp
    show Flt.D.nearest (decide ((n : Int) < 0)) (n : Int).natAbs 0 = _
    rw [h1]; rfl
  have hr : Rnd ((n * pw 1074 : Nat) : Int) 0 (Flt.D.nearest false n 0) := rnd_near (a := 1074) (by rw [D_lp]; rfl) (by rw [Int.natAbs_natCast, pw_eq]) (fun _ => by have := Int.natCast_nonneg (n * pw 1074); exact (decide_eq_false (by omega)).symm)
  obtain ⟨r, h1, h2⟩ := rep_n h 1074 (by decide)
  rw [e]
  refine ⟨hr.fin h1 (by rw [h2]; exact nab _), nearest_sgn _ _ _, ?_⟩
  have l1 := hr.le (r := r) (Int.natCast_nonneg _) (by rw [h2]; exact nai _)
  have l2 := hr.ge (r := r) (Nat.le_of_lt h1) (Int.natCast_nonneg _) (by rw [h2]; exact nai' _)
  rw [h2] at l1 l2
  omega
theorem wh_add {x y r a b : Nat} (hx : Wh x a) (hy : Wh y b) (h : a + b < 2 ^ 53) (hr : FR (Flt.D.add x y) r) : Wh r (a + b) := by
  obtain ⟨r', e, hR, hs⟩ := add_rnd hx.1 hy.1
  rw [hr.some e]
  rw [hx.2.2, hy.2.2, ← Int.natCast_add, ← Nat.add_mul] at hR
  obtain ⟨q, h1, h2⟩ := rep_n h 1074 (by decide)
  refine ⟨hR.fin h1 (by rw [h2]; exact nab _), hs hx.2.1 hy.2.1, ?_⟩
  have l1 := hR.le (r := q) (Int.natCast_nonneg _) (by rw [h2]; exact nai _)
  have l2 := hR.ge (r := q) (Nat.le_of_lt h1) (Int.natCast_nonneg _) (by rw [h2]; exact nai' _)
  rw [h2] at l1 l2
  omega
theorem sum_bound {ns : List Nat} (h : ∀ x ∈ ns, x < 2 ^ 20) : ns.sum ≤ ns.length * 2 ^ 20 := by
  induction ns with
  | nil => simp
  | cons x l ih =>
    have h1 := h x (by simp)
    have h2 := ih fun y hy => h y (by simp [hy])
    rw [List.sum_cons, List.length_cons, Nat.add_mul]
    omega
abbrev fl (ns : List Nat) : List Nat := ns.map fun n => fromInt ((n : Nat) : Int)
theorem fl_el {ns : List Nat} {i : Nat} (h : i < ns.length) : el (fl ns) i = fromInt ((el ns i : Nat) : Int) := el_map h
theorem wh_sum {ns : List Nat} (hb : ∀ x ∈ ns, x < 2 ^ 20) (hl : ns.length ≤ 1000) : ∀ {i s : Nat}, i ≤ ns.length → SumTo 0 (fl ns) i s → Wh s (ns.take i).sum
  | 0, s, _, h => by
    have : s = 0 := h
    subst this
    have := wh_fromInt (n := 0) (by decide)
    exact this
  | i + 1, s, hi, ⟨b, h1, h2⟩ => by
    have ih := wh_sum hb hl (by omega) h1
    rw [fl_el (by omega)] at h2
    have hx := hb _ (el_mem' (xs := ns) (i := i) (by omega))
    have hs := sum_bound (ns := ns.take i) fun x hx => hb x (List.mem_of_mem_take hx)
    rw [List.length_take] at hs
    have hm : min i ns.length * 2 ^ 20 ≤ 1000 * 2 ^ 20 := Nat.mul_le_mul_right _ (by omega)
    rw [take_succ_el (by omega), List.sum_append, List.sum_singleton]
    exact wh_add ih (wh_fromInt (by omega)) (by omega) h2
/-! the mean -/
theorem sum_ge {ns : List Nat} {c : Nat} (h : ∀ x ∈ ns, c ≤ x) : ns.length * c ≤ ns.sum := by
  induction ns with
  | nil => simp
  | cons x l ih =>
    have h1 := h x (by simp)
    have h2 := ih fun y hy => h y (by simp [hy])
    rw [List.sum_cons, List.length_cons, Nat.add_mul]; omega
theorem sum_le {ns : List Nat} {c : Nat} (h : ∀ x ∈ ns, x ≤ c) : ns.sum ≤ ns.length * c := by
  induction ns with
  | nil => simp
  | cons x l ih =>
    have h1 := h x (by simp)
    have h2 := ih fun y hy => h y (by simp [hy])
    rw [List.sum_cons, List.length_cons, Nat.add_mul]; omega
/-- what a mean is told of -/
structure Mn (m t n : Nat) : Prop where
  fin : Flt.Fin m
  sgn : sgn m = false
  nn : 0 ≤ kv m
  lo : ∀ c, c < 2 ^ 53 → n * c ≤ t → ((c * pw 1074 : Nat) : Int) ≤ kv m
  hi : ∀ c, c < 2 ^ 53 → t ≤ n * c → kv m ≤ ((c * pw 1074 : Nat) : Int)
  step : ∃ q : Int, kv m = q * ((pw 1012 : Nat) : Int)
theorem mean_of {s t n m : Nat} (hs : Wh s t) (hn0 : 0 < n) (hn : n ≤ 1000) (ht : t ≤ n * 2 ^ 20) (h : FR (Flt.D.div s (fromInt (n : Int))) m) : Mn m t n := by
  have hw := wh_fromInt (n := n) (by omega)
  have hk0 : 0 < kv (fromInt (n : Int)) := by
    rw [hw.2.2]
    have := Nat.mul_pos hn0 (pw_pos 1074)
    omega
  obtain ⟨m', e, hQ⟩ := div_quo hs.1 hw.1 hs.2.1 hw.2.1 hk0
  obtain rfl := h.some e
  rw [hs.2.2, hw.2.2] at hQ
  obtain ⟨q1, q2, q3, q4, q5⟩ := hQ
  have lo' : ∀ c e' : Nat, c < 2 ^ 53 → e' ≤ 1200 → c * pw e' * n ≤ t * pw 1074 → ((c * pw e' : Nat) : Int) ≤ kv m := fun c e' hc he hle => by
    obtain ⟨r, r1, r2⟩ := rep_n hc e' he
    have := q4 r (Nat.le_of_lt r1)
    rw [r2] at this
    refine this ?_
    have h1 := Nat.mul_le_mul_right (pw 1074) hle
    have e1 : ((c * pw e' : Nat) : Int) * ((n * pw 1074 : Nat) : Int) = ((c * pw e' * n * pw 1074 : Nat) : Int) := by rw [← Int.natCast_mul, ← Nat.mul_assoc]
    have e2 : ((t * pw 1074 : Nat) : Int) * pw 1074 = ((t * pw 1074 * pw 1074 : Nat) : Int) := cast_mul _ _
    rw [e1, e2]
    exact Int.ofNat_le.2 h1
  have hi' : ∀ c e' : Nat, c < 2 ^ 53 → e' ≤ 1200 → t * pw 1074 ≤ c * pw e' * n → kv m ≤ ((c * pw e' : Nat) : Int) := fun c e' hc he hle => by
    obtain ⟨r, r1, r2⟩ := rep_n hc e' he
    have := q5 r
    rw [r2] at this
    refine this ?_
    have h1 := Nat.mul_le_mul_right (pw 1074) hle
    have e1 : ((c * pw e' : Nat) : Int) * ((n * pw 1074 : Nat) : Int) = ((c * pw e' * n * pw 1074 : Nat) : Int) := by rw [← Int.natCast_mul, ← Nat.mul_assoc]
    have e2 : ((t * pw 1074 : Nat) : Int) * pw 1074 = ((t * pw 1074 * pw 1074 : Nat) : Int) := cast_mul _ _
    rw [e1, e2]
    exact Int.ofNat_le.2 h1
  have hfin : Flt.Fin m := by
    refine ⟨q1, ?_⟩
    obtain ⟨r, r1, r2⟩ := rep_n (n := 2 ^ 20) (by decide) 1074 (by decide)
    have h1 := hi' (2 ^ 20) 1074 (by decide) (by decide) (swap_le (c := 2 ^ 20) (e := 1074) (n := n) (t := t) ht)
    have h2 := kv_abs m
    rw [← r2] at h1
    have h3 : val (rng m) ≤ val r := by omega
    rw [val_le] at h3
    omega
  refine ⟨hfin, q2, q3, fun c hc hle => lo' c 1074 hc (by decide) (by rw [Nat.mul_right_comm, Nat.mul_comm c n]; exact Nat.mul_le_mul_right _ hle), fun c hc hle => hi' c 1074 hc (by decide) (by rw [Nat.mul_right_comm, Nat.mul_comm c n]; exact Nat.mul_le_mul_right _ hle), ?_⟩
  rcases Nat.eq_zero_or_pos t with h0 | h0
  · subst h0
    have := hi' 0 1074 (by decide) (by decide) (zmul 1074 n)
    refine ⟨0, ?_⟩
    have this := Int.le_trans this (Int.le_of_eq (zero_pw 1074))
    have h3 : kv m = 0 := by omega
    rw [h3]; simp
  · have h1 := lo' 1 1064 (by decide) (by decide) (by
      rw [Nat.one_mul, Nat.mul_comm]
      exact Nat.le_trans (pw_low (a := 10) (i := n) (by omega) 1064 rfl) (Nat.le_mul_of_pos_left _ h0))
    rw [Nat.one_mul] at h1
    have h2 := kv_abs m
    have h3 : pw 1064 ≤ val (rng m) := by omega
    rcases val_multP (rng m) 1012 with ⟨s', hs'⟩ | ⟨_, hs'⟩
    · refine ⟨(s' : Int), ?_⟩
      rw [← Int.natCast_mul, ← hs']; omega
    · exfalso
      have e1 := bin_pw 1012
      have e2 : pw (52 + 1012) = pw 1064 := rfl
      omega
/-! the spread -/
theorem pow_le_pow_int {a b : Nat} (h : a ≤ b) : ((2 ^ a : Nat) : Int) ≤ ((2 ^ b : Nat) : Int) := Int.ofNat_le.2 (Nat.pow_le_pow_right (by decide) h)
theorem rep_p {e : Nat} (he : e ≤ 1200) : ∃ r, r < Flt.D.infRung ∧ val r = pw e := by
  obtain ⟨r, h1, h2⟩ := rep_n (n := 1) (by decide) e he
  exact ⟨r, h1, by rw [h2, Nat.one_mul]⟩
theorem diff_of {x m a t n d : Nat} (hx : Wh x a) (ha : a ≤ 2 ^ 20) (hm : Mn m t n) (ht : t ≤ n * 2 ^ 20) (h : FR (Flt.D.sub x m) d) : Flt.Fin d ∧ (kv x = kv m → kv d = 0) ∧ (kv x ≠ kv m → pw 1012 ≤ (kv d).natAbs) ∧ (kv d).natAbs ≤ pw 1094 := by
  obtain ⟨d', e, hR⟩ := sub_rnd hx.1 hm.fin
  obtain rfl := h.some e
  have hu := hm.hi (2 ^ 20) (by decide) ht
  have h0 := hm.nn
  obtain ⟨q, hq⟩ := hm.step
  obtain ⟨r, r1, r2⟩ := rep_p (e := 1094) (by decide)
  obtain ⟨r', s1, s2⟩ := rep_p (e := 1012) (by decide)
  have e94 : 2 ^ 20 * pw 1074 = pw 1094 := by rw [← pw_join (a := 20) (b := 1074) rfl, pw_eq 20]
  have hxu : kv x ≤ ((pw 1094 : Nat) : Int) := by
    rw [hx.2.2]; exact Int.le_trans (cast_scale (c := 2 ^ 20) 1074 ha) (Int.le_of_eq (congrArg (fun z : Nat => (z : Int)) e94))
  have hx0 : 0 ≤ kv x := by rw [hx.2.2]; exact Int.natCast_nonneg _
  have hxs : kv x = ((a * 2 ^ 62 : Nat) : Int) * ((pw 1012 : Nat) : Int) := by rw [hx.2.2, ← Int.natCast_mul, Nat.mul_assoc, ← pw_join (a := 62) (b := 1012) (c := 1074) rfl, pw_eq 62]
  rw [e94] at hu
  have hab : (kv x - kv m).natAbs ≤ pw 1094 := by omega
  refine ⟨hR.fin r1 (by rw [r2, pw_zero, Nat.mul_one]; exact hab), fun he => ?_, fun hne => ?_, by rw [← r2]; exact hR.abs_le (by rw [r2, pw_zero, Nat.mul_one]; exact hab)⟩
  · rw [he, Int.sub_self] at hR
    exact hR.zero
  · rw [← s2]
    refine hR.abs_ge (Nat.le_of_lt s1) ?_
    rw [s2, pw_zero, Nat.mul_one]
    have e1 : kv x - kv m = (((a * 2 ^ 62 : Nat) : Int) - q) * ((pw 1012 : Nat) : Int) := by rw [hq, Int.sub_mul, ← hxs]
    rw [e1, Int.natAbs_mul, Int.natAbs_natCast]
    have hz : ((a * 2 ^ 62 : Nat) : Int) - q ≠ 0 := fun e => hne (by rw [e, Int.zero_mul] at e1; omega)
    have := Nat.mul_le_mul_right (pw 1012) (show 1 ≤ (((a * 2 ^ 62 : Nat) : Int) - q).natAbs by omega)
    omega
theorem sq_of {d p : Nat} (hd : Flt.Fin d) (hu : (kv d).natAbs ≤ pw 1094) (h : FR (Flt.D.mul d d) p) : Flt.Fin p ∧ sgn p = false ∧ 0 ≤ kv p ∧ kv p ≤ ((pw 1114 : Nat) : Int) ∧ (kv d = 0 → kv p = 0) ∧ (pw 1012 ≤ (kv d).natAbs → ((pw 950 : Nat) : Int) ≤ kv p) := by
  obtain ⟨p', e, hR, hs⟩ := mul_rnd hd hd
  obtain rfl := h.some e
  obtain ⟨r, r1, r2⟩ := rep_p (e := 1114) (by decide)
  obtain ⟨r', s1, s2⟩ := rep_p (e := 950) (by decide)
  have e0 : kv d * kv d = (((kv d).natAbs * (kv d).natAbs : Nat) : Int) := by
    exact Int.natAbs_mul_self.symm
  rw [e0] at hR
  have hb : (kv d).natAbs * (kv d).natAbs ≤ pw 1114 * pw 1074 := sq_le (a := 1114) (b := 1074) (c := 1094) rfl hu
  have h0 := hR.nonneg (Int.natCast_nonneg _)
  refine ⟨hR.fin r1 (by rw [r2, Int.natAbs_natCast]; exact hb), by rw [hs]; cases sgn d <;> rfl, h0, ?_, fun hz => ?_, fun hl => ?_⟩
  · rw [← r2]
    exact hR.le (Int.natCast_nonneg _) (by rw [r2]; exact Int.ofNat_le.2 hb)
  · rw [hz] at hR
    exact hR.zero
  · rw [← s2]
    refine hR.ge (Nat.le_of_lt s1) (Int.natCast_nonneg _) ?_
    rw [s2]
    refine Int.ofNat_le.2 ?_
    exact sq_ge (a := 950) (b := 1074) (c := 1012) rfl hl
theorem acc_le {a b : Int} {i P : Nat} (h1 : a ≤ ((i * P : Nat) : Int)) (h2 : b ≤ ((P : Nat) : Int)) : a + b ≤ (((i + 1) * P : Nat) : Int) := by rw [Nat.add_mul, Nat.one_mul, Int.natCast_add]; omega
theorem acc_of {v p q i : Nat} (hv : Flt.Fin v) (sv : sgn v = false) (v0 : 0 ≤ kv v) (hu : kv v ≤ ((i * pw 1114 : Nat) : Int)) (hp : Flt.Fin p) (sp : sgn p = false) (p0 : 0 ≤ kv p) (pu : kv p ≤ ((pw 1114 : Nat) : Int)) (hi : i < 1000) (h : FR (Flt.D.add v p) q) :
    Flt.Fin q ∧ sgn q = false ∧ 0 ≤ kv q ∧ kv q ≤ (((i + 1) * pw 1114 : Nat) : Int) ∧ kv v ≤ kv q ∧ kv p ≤ kv q ∧ (kv v = 0 → kv p = 0 → kv q = 0) := by
  obtain ⟨q', e, hR, hs⟩ := add_rnd hv hp
  obtain rfl := h.some e
  obtain ⟨r, r1, r2⟩ := rep_n (n := i + 1) (by omega) 1114 (by decide)
  have hb : kv v + kv p ≤ (((i + 1) * pw 1114 : Nat) : Int) := acc_le hu pu
  have hv' : kv v = ((val (rng v) : Nat) : Int) := by have := kv_abs v; omega
  have hp' : kv p = ((val (rng p) : Nat) : Int) := by have := kv_abs p; omega
  refine ⟨hR.fin r1 (by rw [r2, pw_zero, Nat.mul_one]; omega), hs sv sp, hR.nonneg (by omega), ?_, ?_, ?_, fun z1 z2 => ?_⟩
  · rw [← r2]; exact hR.le (by omega) (by rw [r2, pw_zero, Nat.mul_one]; exact hb)
  · rw [hv']; exact hR.ge (Nat.le_of_lt hv.2) (by omega) (by rw [pw_zero, Nat.mul_one, ← hv']; omega)
  · rw [hp']; exact hR.ge (Nat.le_of_lt hp.2) (by omega) (by rw [pw_zero, Nat.mul_one, ← hp']; omega)
  · rw [z1, z2] at hR; exact hR.zero
structure SqI (ns : List Nat) (m i v : Nat) : Prop where
  fin : Flt.Fin v
  sgn : Flt.sgn v = false
  nn : 0 ≤ kv v
  hi : kv v ≤ ((i * pw 1114 : Nat) : Int)
  zero : (∀ j, j < i → kv (el (fl ns) j) = kv m) → kv v = 0
  pos : ∀ j, j < i → kv (el (fl ns) j) ≠ kv m → ((pw 950 : Nat) : Int) ≤ kv v
theorem fin_zero : Flt.Fin 0 ∧ Flt.sgn 0 = false ∧ kv 0 = 0 := by
  have := wh_fromInt (n := 0) (by decide)
  exact ⟨this.1, this.2.1, this.2.2.trans (zero_pw 1074)⟩
theorem sq_all {ns : List Nat} {m t : Nat} (hb : ∀ x ∈ ns, x < 2 ^ 20) (hl : ns.length ≤ 1000) (hm : Mn m t ns.length) (ht : t ≤ ns.length * 2 ^ 20) : ∀ {i v : Nat}, i ≤ ns.length → SqTo m 0 (fl ns) i v → SqI ns m i v
  | 0, v, _, h => by
    have : v = 0 := h
    subst this
    obtain ⟨a, b, c⟩ := fin_zero
    exact ⟨a, b, by rw [c]; exact Int.le_refl _, by rw [c]; exact Int.natCast_nonneg _, fun _ => c, fun j hj => by omega⟩
  | i + 1, v, hi, ⟨b, d, p, h1, h2, h3, h4⟩ => by
    have ih := sq_all hb hl hm ht (by omega) h1
    have hx := hb _ (el_mem' (xs := ns) (i := i) (by omega))
    have hel : el (fl ns) i = fromInt ((el ns i : Nat) : Int) := fl_el (by omega)
    have hw : Wh (el (fl ns) i) (el ns i) := by rw [hel]; exact wh_fromInt (by omega)
    obtain ⟨d1, d2, d3, d4⟩ := diff_of hw (by omega) hm ht h2
    obtain ⟨p1, p2, p3, p4, p5, p6⟩ := sq_of d1 d4 h3
    obtain ⟨v1, v2, v3, v4, v5, v6, v7⟩ := acc_of ih.fin ih.sgn ih.nn ih.hi p1 p2 p3 p4 (by omega) h4
    refine ⟨v1, v2, v3, v4, fun hall => v7 (ih.zero fun j hj => hall j (by omega)) (p5 (d2 (hall i (by omega)))), fun j hj hne => ?_⟩
    by_cases he : j = i
    · subst he
      exact Int.le_trans (p6 (d3 hne)) v6
    · exact Int.le_trans (ih.pos j (by omega) hne) v5
theorem spread_of {ns : List Nat} {m v q r : Nat} (hl0 : 0 < ns.length) (hl : ns.length ≤ 1000) (hv : SqI ns m ns.length v) (h : FR (Flt.D.div v (fromInt ((ns.length : Nat) : Int))) q) (h2 : FR (Flt.D.sqrt q) r) : NN r ∧ (kv r = 0 ↔ ∀ j, j < ns.length → kv (el (fl ns) j) = kv m) := by
  have hw := wh_fromInt (n := ns.length) (by omega)
  have hk0 : 0 < kv (fromInt ((ns.length : Nat) : Int)) := by
    rw [hw.2.2]
    have := Nat.mul_pos hl0 (pw_pos 1074)
    omega
  obtain ⟨q', e, hQ⟩ := div_quo hv.fin hw.1 hv.sgn hw.2.1 hk0
  obtain rfl := h.some e
  obtain ⟨q1, q2, q3, q4, q5⟩ := hQ
  rw [hw.2.2] at q4 q5
  -- no infinity
  obtain ⟨r1, ra, rb⟩ := rep_p (e := 1124) (by decide)
  have hq : Flt.Fin q := by
    refine ⟨q1, ?_⟩
    have h3 := q5 r1 (by
      rw [rb]
      have a1 : kv v ≤ ((pw 1124 : Nat) : Int) := by
        refine Int.le_trans hv.hi (Int.ofNat_le.2 ?_)
        exact pw_low (a := 10) (i := ns.length) (by omega) 1114 rfl
      obtain ⟨V, hV⟩ : ∃ V : Nat, kv v = (V : Int) := ⟨(kv v).toNat, by have := hv.nn; omega⟩
      rw [hV] at a1 ⊢
      have a2 : V ≤ pw 1124 := Int.ofNat_le.1 a1
      exact quo_up (V := V) (A := pw 1124) (n := ns.length) 1074 a2 hl0)
    have h4 := kv_abs q
    have h5 : val (rng q) ≤ val r1 := by omega
    rw [val_le] at h5; omega
  obtain ⟨r', e', n1, n2⟩ := sqrt_pos hq q2
  obtain rfl := h2.some e'
  refine ⟨n1, n2.trans ⟨fun hz j hj => ?_, fun hall => ?_⟩⟩
  · by_cases hne : kv (el (fl ns) j) = kv m
    · exact hne
    · exfalso
      have a1 := hv.pos j hj hne
      obtain ⟨r2, rc, rd⟩ := rep_p (e := 940) (by decide)
      have h3 := q4 r2 (Nat.le_of_lt rc) (by
        rw [rd]
        refine Int.le_trans ?_ (Int.mul_le_mul_of_nonneg_right a1 (Int.natCast_nonneg (pw 1074)))
        rw [← Int.natCast_mul, ← Int.natCast_mul]
        refine Int.ofNat_le.2 ?_
        rw [← Nat.mul_assoc]
        refine Nat.mul_le_mul_right _ ?_
        rw [Nat.mul_comm]
        exact pw_low (a := 10) (i := ns.length) (by omega) 940 rfl)
      rw [rd, hz] at h3
      have := Int.ofNat_le.1 h3
      have := pw_pos 940
      omega
  · have h3 := q5 0 (by rw [hv.zero hall, Int.zero_mul]; exact Int.mul_nonneg (Int.natCast_nonneg _) (Int.natCast_nonneg _))
    rw [val_zero] at h3
    omega
/-! the least and the greatest -/
theorem wh_kv {a b x y : Nat} (hx : Wh x a) (hy : Wh y b) : (kv x ≤ kv y ↔ a ≤ b) ∧ (kv x = kv y ↔ a = b) := by
  rw [hx.2.2, hy.2.2]
  have hp := pw_pos 1074
  have h1 : ((a * pw 1074 : Nat) : Int) ≤ ((b * pw 1074 : Nat) : Int) ↔ a ≤ b := by rw [Int.ofNat_le]; exact ⟨fun h => Nat.le_of_mul_le_mul_right h hp, fun h => Nat.mul_le_mul_right _ h⟩
  have h2 : ((b * pw 1074 : Nat) : Int) ≤ ((a * pw 1074 : Nat) : Int) ↔ b ≤ a := by rw [Int.ofNat_le]; exact ⟨fun h => Nat.le_of_mul_le_mul_right h hp, fun h => Nat.mul_le_mul_right _ h⟩
  refine ⟨h1, ?_⟩
  constructor
  · intro h; exact Nat.le_antisymm (h1.1 (Int.le_of_eq h)) (h2.1 (Int.le_of_eq h.symm))
  · intro h; rw [h]
theorem min_all {ns : List Nat} (hb : ∀ x ∈ ns, x < 2 ^ 20) (h0 : 0 < ns.length) : ∀ i, i ≤ ns.length → NN (minTo (fl ns) i) ∧ (∃ j, j < ns.length ∧ kv (minTo (fl ns) i) = kv (el (fl ns) j)) ∧ ∀ j, j < i → kv (minTo (fl ns) i) ≤ kv (el (fl ns) j)
  | 0, _ => by
    have hel : el (fl ns) 0 = fromInt ((el ns 0 : Nat) : Int) := fl_el h0
    refine ⟨?_, ⟨0, h0, rfl⟩, fun j hj => by omega⟩
    show NN (el (fl ns) 0)
    rw [hel]; exact fromInt_NN _
  | i + 1, hi => by
    obtain ⟨a, ⟨j, j1, j2⟩, c⟩ := min_all hb h0 i (by omega)
    have hel : NN (el (fl ns) i) := by rw [fl_el (by omega)]; exact fromInt_NN _
    rw [minTo_succ (by rw [List.length_map]; omega)]
    refine ⟨minF_NN a hel, ?_, fun k hk => ?_⟩
    · rw [minF_kv a hel]
      by_cases hle : kv (minTo (fl ns) i) ≤ kv (el (fl ns) i)
      · exact ⟨j, j1, by omega⟩
      · exact ⟨i, by omega, by omega⟩
    · rw [minF_kv a hel]
      by_cases hk' : k = i
      · subst hk'; omega
      · have := c k (by omega); omega
theorem max_all {ns : List Nat} (hb : ∀ x ∈ ns, x < 2 ^ 20) (h0 : 0 < ns.length) : ∀ i, i ≤ ns.length → NN (maxTo (fl ns) i) ∧ (∃ j, j < ns.length ∧ kv (maxTo (fl ns) i) = kv (el (fl ns) j)) ∧ ∀ j, j < i → kv (el (fl ns) j) ≤ kv (maxTo (fl ns) i)
  | 0, _ => by
    have hel : el (fl ns) 0 = fromInt ((el ns 0 : Nat) : Int) := fl_el h0
    refine ⟨?_, ⟨0, h0, rfl⟩, fun j hj => by omega⟩
    show NN (el (fl ns) 0)
    rw [hel]; exact fromInt_NN _
  | i + 1, hi => by
    obtain ⟨a, ⟨j, j1, j2⟩, c⟩ := max_all hb h0 i (by omega)
    have hel : NN (el (fl ns) i) := by rw [fl_el (by omega)]; exact fromInt_NN _
    rw [maxTo_succ (by rw [List.length_map]; omega)]
    refine ⟨maxF_NN a hel, ?_, fun k hk => ?_⟩
    · rw [maxF_kv a hel]
      by_cases hle : kv (el (fl ns) i) ≤ kv (maxTo (fl ns) i)
      · exact ⟨j, j1, by omega⟩
      · exact ⟨i, by omega, by omega⟩
    · rw [maxF_kv a hel]
      by_cases hk' : k = i
      · subst hk'; omega
      · have := c k (by omega); omega
/-- what the law asks -/
structure WholeU (ns : List Nat) (lo hi : Nat) (u : Grp) : Prop where
  numbers : u.numbers = ((ns.length : Nat) : Int)
  sum : Flt.D.order u.sum (fromInt ((ns.sum : Nat) : Int)) = some .eq
  least : Flt.D.order u.least (fromInt ((lo : Nat) : Int)) = some .eq
  greatest : Flt.D.order u.greatest (fromInt ((hi : Nat) : Int)) = some .eq
  mlo : Flt.D.order u.mean u.least = some .gt ∨ Flt.D.order u.mean u.least = some .eq
  mhi : Flt.D.order u.mean u.greatest = some .lt ∨ Flt.D.order u.mean u.greatest = some .eq
  spread : Flt.D.order u.spread 0 = some .eq ↔ lo = hi
theorem whole_fill {ns : List Nat} {g u : Grp} {lo hi : Nat} (h0 : 0 < ns.length) (hl : ns.length ≤ 1000) (hb : ∀ x ∈ ns, x < 2 ^ 20) (hg : g.sum = 0 ∧ g.spread = 0) (hlo : lo ∈ ns ∧ ∀ x ∈ ns, lo ≤ x) (hhi : hi ∈ ns ∧ ∀ x ∈ ns, x ≤ hi) (h : IsFill (fl ns) g u) : WholeU ns lo hi u := by
  unfold IsFill at h
  rw [if_neg (by rw [List.length_map]; omega)] at h
  obtain ⟨u0, ⟨u1, m, ⟨s, hs, rfl⟩, hm, rfl⟩, ⟨u2, q, r, ⟨v, hv, rfl⟩, hq, hr, rfl⟩⟩ := h
  rw [List.length_map] at hs hm hv hq
  rw [hg.1] at hs
  dsimp only at hm hv hq
  rw [hg.2] at hv
  have hws := wh_sum hb hl (Nat.le_refl _) hs
  rw [List.take_length] at hws
  have ht := sum_bound hb
  have hM := mean_of hws h0 hl ht hm
  have hSq := sq_all hb hl hM ht (Nat.le_refl _) hv
  have hSp := spread_of h0 hl hSq hq hr
  obtain ⟨a1, ⟨ja, ja1, ja2⟩, a3⟩ := min_all hb h0 ns.length (Nat.le_refl _)
  obtain ⟨b1, ⟨jb, jb1, jb2⟩, b3⟩ := max_all hb h0 ns.length (Nat.le_refl _)
  have hwe : ∀ j, j < ns.length → Wh (el (fl ns) j) (el ns j) := fun j hj => by rw [fl_el hj]; exact wh_fromInt (by have := hb _ (el_mem' hj); omega)
  have hlo2 := hb _ hlo.1
  have hhi2 := hb _ hhi.1
  have wlo := wh_fromInt (n := lo) (by omega)
  have whi := wh_fromInt (n := hi) (by omega)
  have hml : kv (minTo (fl ns) ns.length) = kv (fromInt ((lo : Nat) : Int)) := by
    obtain ⟨k, hk, ek⟩ := List.getElem_of_mem hlo.1
    rw [← el_eq hk] at ek
    have l1 := a3 k hk
    have l2 := ((wh_kv (hwe k hk) wlo).2).2 ek
    have l3 := ((wh_kv wlo (hwe ja ja1)).1).2 (hlo.2 _ (el_mem' ja1))
    omega
  have hmh : kv (maxTo (fl ns) ns.length) = kv (fromInt ((hi : Nat) : Int)) := by
    obtain ⟨k, hk, ek⟩ := List.getElem_of_mem hhi.1
    rw [← el_eq hk] at ek
    have l1 := b3 k hk
    have l2 := ((wh_kv (hwe k hk) whi).2).2 ek
    have l3 := ((wh_kv (hwe jb jb1) whi).1).2 (hhi.2 _ (el_mem' jb1))
    omega
  have m1 := hM.lo lo (by omega) (sum_ge hlo.2)
  have m2 := hM.hi hi (by omega) (sum_le hhi.2)
  rw [← wlo.2.2] at m1
  rw [← whi.2.2] at m2
  have hll : (fl ns).length = ns.length := List.length_map _
  refine ⟨by dsimp only; rw [hll], ?_, ?_, ?_, ?_, ?_, ?_⟩
  · exact (order_eq hws.1.1 (fromInt_NN _)).2 (((wh_kv hws (wh_fromInt (by omega))).2).2 rfl)
  · dsimp only; rw [hll]; exact (order_eq a1 (fromInt_NN _)).2 hml
  · dsimp only; rw [hll]; exact (order_eq b1 (fromInt_NN _)).2 hmh
  · dsimp only; rw [hll, order_gt hM.fin.1 a1, order_eq hM.fin.1 a1, hml]; omega
  · dsimp only; rw [hll, order_lt hM.fin.1 b1, order_eq hM.fin.1 b1, hmh]; omega
  · dsimp only
    rw [order_eq hSp.1 fin_zero.1.1, fin_zero.2.2, hSp.2]
    constructor
    · intro hall
      obtain ⟨k, hk, ek⟩ := List.getElem_of_mem hlo.1
      obtain ⟨k', hk', ek'⟩ := List.getElem_of_mem hhi.1
      rw [← el_eq hk] at ek
      rw [← el_eq hk'] at ek'
      have := ((wh_kv (hwe k hk) (hwe k' hk')).2).1 ((hall k hk).trans (hall k' hk').symm)
      omega
    · intro e j hj
      have l1 := hlo.2 _ (el_mem' hj)
      have l2 := hhi.2 _ (el_mem' hj)
      have l3 : el ns j = lo := by omega
      have l4 := ((wh_kv (hwe j hj) wlo).2).2 l3
      rw [← e] at m2
      omega
end Go.Eng
