import Derived.Test.YtegpcbckiehleaaDoorS1
namespace Go.Proofs.YtegpcbckiehleaaDoor
open Go.RowKit Go.Eng Go.OrdPure Go.Flt
theorem T.cf29 : CF Tryd.prog 29 := fun _ _ => by kernel_rfl

theorem scan_stop {t : NSt} {s : ByteArray} {i : Nat} (h1 : ¬ ((Utf8.decode s i).1 = 45 ∧ t.first = true)) (h2 : (dig (Utf8.decode s i).1 → t.d = 15)) (h3 : ¬ ((Utf8.decode s i).1 = 46 ∧ t.b < 0 ∧ 0 < t.d)) : stp t (ch s i) = none := by
  by_cases hb : ch s i < 128
  · rw [dec_small hb] at h1 h2 h3
    unfold stp
    rw [if_neg h1]
    by_cases hd : dig (ch s i)
    · rw [if_pos hd, if_pos (h2 hd)]
    · rw [if_neg hd, if_neg h3]
  · unfold stp
    rw [if_neg (by omega), if_neg (by unfold dig; omega), if_neg (by omega)]
set_option maxHeartbeats 4000000 in
theorem number9 (s : ByteArray) (w0 : World) (hs : s.size ≤ maxLen) (hT : Laid w0) : Calls Tryd.prog 9 #[.string s] w0 fun e w' => e = .returned (.tuple #[.float .f64 ((numL (bl s)).getD 0), .bool (numL (bl s)).isSome]) ∧ Below w0.heap.size w0 w' := by
  have hE0 : Below w0.heap.size w0 w0 := Below.refl _ _
  have hz0 := hE0.le
  simp only [maxLen] at hs
  refine enter Tryd.func9 rfl 74 Tryd.ntmps9 rfl ?_
  refine seqK fun Q1 kn2 kr3 ke4 => ?_
  refine region ?_
  refine st_q (v := .float .f64 0) (x_assign rfl) ?_
  refine st_q (v := .bool false) (x_assign rfl) ?_
  refine st_nil ?_
  refine kn2 _ _ ?_
  refine seqK fun Q5 kn6 kr7 ke8 => ?_
  refine region ?_
  refine st_q (v := .int .i64 ((0 : Nat) : Int)) (x_assign rfl) ?_
  refine st_q (v := .int .i64 ((0 : Nat) : Int)) (x_assign rfl) ?_
  refine st_q (v := .int .i64 (-1)) (x_assign rfl) ?_
  refine st_nil ?_
  refine kn6 _ _ ?_
  refine seqK fun Q9 kn10 kr11 ke12 => ?_
  refine region ?_
  refine st_q (v := .bool false) (x_assign rfl) ?_
  refine st_nil ?_
  refine kn10 _ _ ?_
  refine seqK fun Q13 kn14 kr15 ke16 => ?_
  refine seqK fun Q17 kn18 kr19 ke20 => ?_
  refine region ?_
  refine st_q (v := .string s) (x_move rfl) ?_
  refine st_e (e_rangeS Tryd.underlying9 rfl ?_)
  intro w21 hA22
  have hx23 := hA22.ext
  have hs25 := hA22.size
  have hI24 := hA22.new
  have hE26 : Below w0.heap.size w0 w21 := hx23.e hE0 (Nat.le_refl _)
  have hz27 := hE26.le
  have hs28 := hx23.size
  refine st_nil ?_
  refine kn18 _ _ ?_
  refine blockK fun Q29 kn30 kr31 kx32 kb33 => ?_
  refine loopK (α := Nat × Nat × Nat × Int × Bool) (fun x => [(4, .int .i64 ((x.2.1 : Nat) : Int)), (5, .int .i64 ((x.2.2.1 : Nat) : Int)), (6, .int .i64 x.2.2.2.1), (7, .bool x.2.2.2.2), (12, .pointer (some ⟨w0.heap.size, 0, none⟩))]) (fun x w34 => Below w0.heap.size w0 w34 ∧ w34.heap[w0.heap.size]? = some (.stringIter s x.1) ∧ x.1 ≤ s.size ∧ scan st0 (bl s) = scan ⟨decide (x.1 = 0), x.2.2.2.2, x.2.1, x.2.2.1, x.2.2.2.1⟩ ((bl s).drop x.1) ∧ x.2.2.1 ≤ 15 ∧ x.2.1 < 10 ^ x.2.2.1 ∧ -1 ≤ x.2.2.2.1 ∧ x.2.2.2.1 ≤ x.2.2.1) (fun x => s.size - x.1) (0, 0, 0, (-1), false) ⟨rfl, rfl, rfl, rfl, rfl, trivial⟩ ?_ ?_
  ·
   refine ⟨hE26, ?_⟩
   try dsimp only
   exact ⟨hI24, Nat.zero_le _, rfl, by omega, by decide, by omega, by omega⟩
  ·
   rintro τ35 ⟨i, n, d, b, m⟩ w36 ⟨hx37, ⟨hIt, hi, hS, hd, hn, hb1, hb2⟩⟩
   try dsimp only at hIt hi hS hd hn hb1 hb2
   have hz38 := hx37.le
   intro Q39 kn40 kr41 ke42
   refine seqK fun Q43 kn44 kr45 ke46 => ?_
   refine region ?_
   refine st_e (e_nextS rfl hIt (fun hend => ?_) (fun hlt wn hP => ?_))
   ·
    refine st_q (v := .bool false) (x_extract rfl rfl) ?_
    refine st_nil ?_
    refine kn44 _ _ ?_
    refine seqK fun Q47 kn48 kr49 ke50 => ?_
    refine cndF rfl ?_
    refine exit ?_
    refine ke50 _ _ _ ?_
    refine ke42 _ _ _ ?_
    refine kb33 _ _ ?_
    refine kn14 _ _ ?_
    refine seqK fun Q51 kn52 kr53 ke54 => ?_
    refine seqK fun Q55 kn56 kr57 ke58 => ?_
    refine region ?_
    refine st_q (v := .int .i64 ((d : Nat) : Int)) (x_move rfl) ?_
    refine st_q (v := .bool (decide (d = 0))) (x_eqlN rfl rfl) ?_
    refine st_if (p := d = 0) (x_move rfl) (fun h59 => ?_) (fun h59 => ?_)
    ·
     refine st_gn 2 58 rfl rfl (by decide) rfl ?_
     refine st_gn 2 58 rfl rfl (by decide) rfl ?_
     refine st_q (v := .bool true) (x_pickT rfl rfl) ?_
     refine st_nil ?_
     refine kn56 _ _ ?_
     refine cndT rfl ?_
     refine seqK fun Q60 kn61 kr62 ke63 => ?_
     refine region ?_
     refine st_q (v := .float .f64 0) (x_assign rfl) ?_
     refine st_q (v := .bool false) (x_assign rfl) ?_
     refine st_nil ?_
     refine kn61 _ _ ?_
     refine ret ?_
     refine kr53 _ _ ?_
     refine leave2 (P := Tryd.prog) (fn := Tryd.f9) (t := 2) (u := 3) (v := .float .f64 0) (v' := .bool false) rfl rfl rfl ?_
     have hE : scan st0 (bl s) = some ⟨decide (i = 0), m, n, d, b⟩ := by rw [hS, List.drop_of_length_le (by rw [bl_len]; omega)]; rfl
     have e0 : numL (bl s) = none := by
       rw [← scan_numL, hE]; simp only [Option.bind_some, fin]; rw [if_pos (by omega)]
     exact ⟨by rw [e0]; rfl, hx37⟩
    ·
     refine st_gq 2 58 rfl rfl (by decide) ?_
     refine st_q (v := .int .i64 b) (x_move rfl) ?_
     refine st_gq 2 58 rfl rfl (by decide) ?_
     refine st_q (v := .bool (decide (b = 0))) (x_eql rfl rfl) ?_
     refine st_q (v := .bool (decide (b = 0))) (x_pickF rfl rfl) ?_
     refine st_nil ?_
     refine kn56 _ _ ?_
     refine cnd (p := b = 0) rfl (fun h64 => ?_) (fun h64 => ?_)
     ·
      refine seqK fun Q65 kn66 kr67 ke68 => ?_
      refine region ?_
      refine st_q (v := .float .f64 0) (x_assign rfl) ?_
      refine st_q (v := .bool false) (x_assign rfl) ?_
      refine st_nil ?_
      refine kn66 _ _ ?_
      refine ret ?_
      refine kr53 _ _ ?_
      refine leave2 (P := Tryd.prog) (fn := Tryd.f9) (t := 2) (u := 3) (v := .float .f64 0) (v' := .bool false) rfl rfl rfl ?_
      have hE : scan st0 (bl s) = some ⟨decide (i = 0), m, n, d, b⟩ := by rw [hS, List.drop_of_length_le (by rw [bl_len]; omega)]; rfl
      have e0 : numL (bl s) = none := by
        rw [← scan_numL, hE]; simp only [Option.bind_some, fin]; rw [if_pos (by omega)]
      exact ⟨by rw [e0]; rfl, hx37⟩
     ·
      refine skip ?_
      refine kn52 _ _ ?_
      refine seqK fun Q69 kn70 kr71 ke72 => ?_
      refine region ?_
      have hE : scan st0 (bl s) = some ⟨decide (i = 0), m, n, d, b⟩ := by rw [hS, List.drop_of_length_le (by rw [bl_len]; omega)]; rfl
      have hR : numL (bl s) = some (if m = true then negF (numBits n b.toNat) else numBits n b.toNat) := by
            rw [← scan_numL, hE]; simp only [Option.bind_some, fin]; rw [if_neg (by omega)]
      refine st_q (v := .int .i64 ((n : Nat) : Int)) (x_move rfl) ?_
      refine st_q (v := .float .f64 ((fromInt (((n : Nat) : Int))))) (x_convF Tryd.underlying22 Tryd.underlying3 rfl) ?_
      refine st_q (v := .float .f64 ((fromInt (((n : Nat) : Int))))) (x_assign rfl) ?_
      refine st_nil ?_
      refine kn70 _ _ ?_
      refine seqK fun Q73 kn74 kr75 ke76 => ?_
      refine seqK fun Q77 kn78 kr79 ke80 => ?_
      refine region ?_
      refine st_q (v := .int .i64 b) (x_move rfl) ?_
      refine st_q (v := .bool (decide (0 < b))) (x_gtr rfl rfl) ?_
      refine st_nil ?_
      refine kn78 _ _ ?_
      refine cnd (p := 0 < b) rfl (fun h81 => ?_) (fun h81 => ?_)
      ·
       refine region ?_
       obtain ⟨k, rfl⟩ : ∃ k : Nat, b = ((k : Nat) : Int) := ⟨b.toNat, by omega⟩
       rw [show Int.toNat ((k : Nat) : Int) = k from rfl] at hR
       refine st_q (v := .float .f64 ((fromInt (((n : Nat) : Int))))) (x_move rfl) ?_
       refine st_q (v := .int .i64 ((k : Nat) : Int)) (x_move rfl) ?_
       refine st_c (t_call [.int .i64 ((k : Nat) : Int)] T.cf29 rfl rfl) (pow29 k _ (by omega) (hT.below hx37)) ?_
       rintro _ w82 ⟨rfl, hx83⟩
       refine ⟨_, rfl, ?_⟩
       have hE84 : Below w0.heap.size w0 w82 := hx83.e hx37 (Nat.le_refl _)
       have hz85 := hE84.le
       have hs86 := hx83.size
       refine st_q (v := .float .f64 ((numBits n k))) (x_quoF rfl rfl (numBits_pos (by omega) (by omega))) ?_
       refine st_q (v := .float .f64 ((numBits n k))) (x_assign rfl) ?_
       refine st_nil ?_
       refine kn74 _ _ ?_
       refine seqK fun Q87 kn88 kr89 ke90 => ?_
       refine seqK fun Q91 kn92 kr93 ke94 => ?_
       refine region ?_
       refine st_q (v := .bool m) (x_move rfl) ?_
       refine st_nil ?_
       refine kn92 _ _ ?_
       refine cndB (b := m) rfl (fun h95 => ?_) (fun h95 => ?_)
       ·
        refine region ?_
        refine st_q (v := .float .f64 ((numBits n k))) (x_move rfl) ?_
        refine st_q (v := .float .f64 ((negF ((numBits n k))))) (x_negF rfl) ?_
        refine st_q (v := .float .f64 ((negF ((numBits n k))))) (x_assign rfl) ?_
        refine st_nil ?_
        refine kn88 _ _ ?_
        refine seqK fun Q96 kn97 kr98 ke99 => ?_
        refine region ?_
        refine st_q (v := .float .f64 ((negF ((numBits n k))))) (x_move rfl) ?_
        refine st_q (v := .float .f64 ((negF ((numBits n k))))) (x_assign rfl) ?_
        refine st_q (v := .bool true) (x_assign rfl) ?_
        refine st_nil ?_
        refine kn97 _ _ ?_
        refine ret ?_
        refine leave2 (P := Tryd.prog) (fn := Tryd.f9) (t := 2) (u := 3) (v := .float .f64 ((negF ((numBits n k))))) (v' := .bool true) rfl rfl rfl ?_
        exact ⟨by rw [hR, if_pos (by assumption)]; rfl, hE84⟩
       ·
        refine skip ?_
        refine kn88 _ _ ?_
        refine seqK fun Q100 kn101 kr102 ke103 => ?_
        refine region ?_
        refine st_q (v := .float .f64 ((numBits n k))) (x_move rfl) ?_
        refine st_q (v := .float .f64 ((numBits n k))) (x_assign rfl) ?_
        refine st_q (v := .bool true) (x_assign rfl) ?_
        refine st_nil ?_
        refine kn101 _ _ ?_
        refine ret ?_
        refine leave2 (P := Tryd.prog) (fn := Tryd.f9) (t := 2) (u := 3) (v := .float .f64 ((numBits n k))) (v' := .bool true) rfl rfl rfl ?_
        exact ⟨by rw [hR, if_neg (show ¬ m = true from fun hh => by cases (hh.symm.trans (by assumption : m = false)))]; rfl, hE84⟩
      ·
       refine skip ?_
       refine kn74 _ _ ?_
       refine seqK fun Q104 kn105 kr106 ke107 => ?_
       refine seqK fun Q108 kn109 kr110 ke111 => ?_
       refine region ?_
       refine st_q (v := .bool m) (x_move rfl) ?_
       refine st_nil ?_
       refine kn109 _ _ ?_
       refine cndB (b := m) rfl (fun h112 => ?_) (fun h112 => ?_)
       ·
        refine region ?_
        refine st_q (v := .float .f64 ((fromInt (((n : Nat) : Int))))) (x_move rfl) ?_
        refine st_q (v := .float .f64 ((negF ((fromInt (((n : Nat) : Int))))))) (x_negF rfl) ?_
        refine st_q (v := .float .f64 ((negF ((fromInt (((n : Nat) : Int))))))) (x_assign rfl) ?_
        refine st_nil ?_
        refine kn105 _ _ ?_
        refine seqK fun Q113 kn114 kr115 ke116 => ?_
        refine region ?_
        refine st_q (v := .float .f64 ((negF ((fromInt (((n : Nat) : Int))))))) (x_move rfl) ?_
        refine st_q (v := .float .f64 ((negF ((fromInt (((n : Nat) : Int))))))) (x_assign rfl) ?_
        refine st_q (v := .bool true) (x_assign rfl) ?_
        refine st_nil ?_
        refine kn114 _ _ ?_
        refine ret ?_
        refine leave2 (P := Tryd.prog) (fn := Tryd.f9) (t := 2) (u := 3) (v := .float .f64 ((negF ((fromInt (((n : Nat) : Int))))))) (v' := .bool true) rfl rfl rfl ?_
        exact ⟨by rw [hR, show b.toNat = 0 by omega, numBits_zero, if_pos (by assumption)]; rfl, hx37⟩
       ·
        refine skip ?_
        refine kn105 _ _ ?_
        refine seqK fun Q117 kn118 kr119 ke120 => ?_
        refine region ?_
        refine st_q (v := .float .f64 ((fromInt (((n : Nat) : Int))))) (x_move rfl) ?_
        refine st_q (v := .float .f64 ((fromInt (((n : Nat) : Int))))) (x_assign rfl) ?_
        refine st_q (v := .bool true) (x_assign rfl) ?_
        refine st_nil ?_
        refine kn118 _ _ ?_
        refine ret ?_
        refine leave2 (P := Tryd.prog) (fn := Tryd.f9) (t := 2) (u := 3) (v := .float .f64 ((fromInt (((n : Nat) : Int))))) (v' := .bool true) rfl rfl rfl ?_
        exact ⟨by rw [hR, show b.toNat = 0 by omega, numBits_zero, if_neg (show ¬ m = true from fun hh => by cases (hh.symm.trans (by assumption : m = false)))]; rfl, hx37⟩
   ·
    have hI121 := hP.new
    have hs122 := hP.size
    have hE123 : Below w0.heap.size w0 wn := hP.below hx37 (by omega)
    have hz124 := hE123.le
    refine st_q (v := .bool true) (x_extract rfl rfl) ?_
    refine st_nil ?_
    refine kn44 _ _ ?_
    refine seqK fun Q125 kn126 kr127 ke128 => ?_
    refine cndT rfl ?_
    refine skip ?_
    refine kn126 _ _ ?_
    refine blockK fun Q129 kn130 kr131 kx132 kb133 => ?_
    refine seqK fun Q134 kn135 kr136 ke137 => ?_
    refine region ?_
    refine st_q (v := .int .i64 ((i : Nat) : Int)) (x_extract rfl rfl) ?_
    refine st_q (v := .int .i32 ((((Utf8.decode s i).1) : Nat) : Int)) (x_extract rfl rfl) ?_
    refine st_q (v := .int .i64 ((i : Nat) : Int)) (x_assign rfl) ?_
    refine st_q (v := .int .i32 ((((Utf8.decode s i).1) : Nat) : Int)) (x_assign rfl) ?_
    refine st_nil ?_
    refine kn135 _ _ ?_
    refine blockK fun Q138 kn139 kr140 kx141 kb142 => ?_
    refine seqK fun Q143 kn144 kr145 ke146 => ?_
    refine region ?_
    refine st_q (v := .int .i32 ((((Utf8.decode s i).1) : Nat) : Int)) (x_move rfl) ?_
    refine st_q (v := .bool (decide ((((Utf8.decode s i).1)) = 45))) (x_eqlN rfl rfl) ?_
    refine st_if (p := (((Utf8.decode s i).1)) = 45) (x_move rfl) (fun h147 => ?_) (fun h147 => ?_)
    ·
     refine st_gq 2 20 rfl rfl (by decide) ?_
     refine st_q (v := .int .i64 ((i : Nat) : Int)) (x_move rfl) ?_
     refine st_gq 2 20 rfl rfl (by decide) ?_
     refine st_q (v := .bool (decide (i = 0))) (x_eqlN rfl rfl) ?_
     refine st_q (v := .bool (decide (i = 0))) (x_pickT rfl rfl) ?_
     refine st_q (v := .bool (decide (i = 0))) (x_assign rfl) ?_
     refine st_nil ?_
     refine kn144 _ _ ?_
     refine cnd (p := i = 0) rfl (fun h148 => ?_) (fun h148 => ?_)
     ·
      refine region ?_
      refine st_q (v := .bool true) (x_assign rfl) ?_
      refine st_nil ?_
      refine kn139 _ _ ?_
      refine kn130 _ _ ?_
      refine kn40 _ ((i + 1), n, d, b, true) _ ⟨rfl, rfl, rfl, rfl, rfl, trivial⟩ ⟨hE123, ?_⟩ ?_
      ·
       try dsimp only
       obtain ⟨hc1, hc2⟩ := dec_is (s := s) (i := i) (c := 45) (by omega) (by omega)
       rw [hc2] at hI121
       obtain rfl : i = 0 := by omega
       refine ⟨hI121, by omega, ?_, by omega, by omega, by omega⟩
       rw [hS, drop_el (by rw [bl_len]; omega), scan, bl_el (by omega), hc1]
       rfl
      ·
       (try dsimp only); omega
     ·
      refine seqK fun Q149 kn150 kr151 ke152 => ?_
      refine region ?_
      refine st_q (v := .int .i32 ((((Utf8.decode s i).1) : Nat) : Int)) (x_move rfl) ?_
      refine st_q (v := .bool (decide (48 ≤ (((Utf8.decode s i).1))))) (x_geqN rfl rfl) ?_
      refine st_if (p := 48 ≤ (((Utf8.decode s i).1))) (x_move rfl) (fun h153 => ?_) (fun h153 => ?_)
      ·
       refine st_gq 2 27 rfl rfl (by decide) ?_
       refine st_q (v := .int .i32 ((((Utf8.decode s i).1) : Nat) : Int)) (x_move rfl) ?_
       refine st_gq 2 27 rfl rfl (by decide) ?_
       refine st_q (v := .bool (decide ((((Utf8.decode s i).1)) ≤ 57))) (x_leqN rfl rfl) ?_
       refine st_q (v := .bool (decide ((((Utf8.decode s i).1)) ≤ 57))) (x_pickT rfl rfl) ?_
       refine st_q (v := .bool (decide ((((Utf8.decode s i).1)) ≤ 57))) (x_assign rfl) ?_
       refine st_nil ?_
       refine kn150 _ _ ?_
       refine cnd (p := (((Utf8.decode s i).1)) ≤ 57) rfl (fun h154 => ?_) (fun h154 => ?_)
       ·
        refine seqK fun Q155 kn156 kr157 ke158 => ?_
        refine seqK fun Q159 kn160 kr161 ke162 => ?_
        refine region ?_
        refine st_q (v := .int .i64 ((d : Nat) : Int)) (x_move rfl) ?_
        refine st_q (v := .bool (decide (d = 15))) (x_eqlN rfl rfl) ?_
        refine st_nil ?_
        refine kn160 _ _ ?_
        refine cnd (p := d = 15) rfl (fun h163 => ?_) (fun h163 => ?_)
        ·
         refine seqK fun Q164 kn165 kr166 ke167 => ?_
         refine region ?_
         refine st_q (v := .float .f64 0) (x_assign rfl) ?_
         refine st_q (v := .bool false) (x_assign rfl) ?_
         refine st_nil ?_
         refine kn165 _ _ ?_
         refine ret ?_
         refine kr157 _ _ ?_
         refine kr140 _ _ ?_
         refine kr131 _ _ ?_
         refine kr41 _ _ ?_
         refine kr31 _ _ ?_
         refine kr15 _ _ ?_
         refine leave2 (P := Tryd.prog) (fn := Tryd.f9) (t := 2) (u := 3) (v := .float .f64 0) (v' := .bool false) rfl rfl rfl ?_
         have e0 : numL (bl s) = none := by
           rw [← scan_numL, hS, drop_el (by rw [bl_len]; omega), scan, bl_el (by omega), scan_stop (by simp only [decide_eq_true_eq]; omega) (fun hd => by unfold dig at hd; dsimp only; omega) (by dsimp only; omega)]
           first | done | rfl
         exact ⟨by rw [e0]; rfl, hE123⟩
        ·
         refine skip ?_
         refine kn156 _ _ ?_
         refine seqK fun Q168 kn169 kr170 ke171 => ?_
         refine region ?_
         have hd9 : dig (Utf8.decode s i).1 := ⟨by omega, by omega⟩
         have hp15 := Nat.pow_le_pow_right (show 0 < 10 by decide) (show d ≤ 14 by omega)
         obtain ⟨hc1, hc2⟩ := dec_is (s := s) (i := i) rfl (by omega)
         refine st_q (v := .int .i64 ((n : Nat) : Int)) (x_move rfl) ?_
         refine st_q (v := .int .i64 (((n * 10) : Nat) : Int)) (x_mulN rfl rfl (by omega)) ?_
         refine st_q (v := .int .i32 ((((Utf8.decode s i).1) : Nat) : Int)) (x_move rfl) ?_
         refine st_q (v := .int .i32 (((((Utf8.decode s i).1) - 48) : Nat) : Int)) (x_subK rfl rfl (by omega) (by omega)) ?_
         refine st_q (v := .int .i64 (((((Utf8.decode s i).1) - 48) : Nat) : Int)) (x_conv Tryd.underlying3 Tryd.underlying21 rfl (.inr ⟨by simp, by omega⟩)) ?_
         refine st_q (v := .int .i64 ((((n * 10) + (((Utf8.decode s i).1) - 48)) : Nat) : Int)) (x_addN rfl rfl (by omega)) ?_
         refine st_q (v := .int .i64 ((((n * 10) + (((Utf8.decode s i).1) - 48)) : Nat) : Int)) (x_assign rfl) ?_
         refine st_nil ?_
         refine kn169 _ _ ?_
         refine seqK fun Q172 kn173 kr174 ke175 => ?_
         refine region ?_
         refine st_q (v := .int .i64 ((d : Nat) : Int)) (x_move rfl) ?_
         refine st_q (v := .int .i64 (((d + 1) : Nat) : Int)) (x_addN rfl rfl (by omega)) ?_
         refine st_q (v := .int .i64 (((d + 1) : Nat) : Int)) (x_assign rfl) ?_
         refine st_nil ?_
         refine kn173 _ _ ?_
         refine seqK fun Q176 kn177 kr178 ke179 => ?_
         refine region ?_
         refine st_q (v := .int .i64 b) (x_move rfl) ?_
         refine st_q (v := .bool (decide (0 ≤ b))) (x_geq rfl rfl) ?_
         refine st_nil ?_
         refine kn177 _ _ ?_
         refine cnd (p := 0 ≤ b) rfl (fun h180 => ?_) (fun h180 => ?_)
         ·
          refine region ?_
          obtain ⟨k, rfl⟩ : ∃ k : Nat, b = ((k : Nat) : Int) := ⟨b.toNat, by omega⟩
          refine st_q (v := .int .i64 ((k : Nat) : Int)) (x_move rfl) ?_
          refine st_q (v := .int .i64 (((k + 1) : Nat) : Int)) (x_addN rfl rfl (by omega)) ?_
          refine st_q (v := .int .i64 (((k + 1) : Nat) : Int)) (x_assign rfl) ?_
          refine st_nil ?_
          refine kn139 _ _ ?_
          refine kn130 _ _ ?_
          refine kn40 _ ((i + 1), ((n * 10) + (((Utf8.decode s i).1) - 48)), (d + 1), (((k + 1) : Nat) : Int), m) _ ⟨rfl, rfl, rfl, rfl, rfl, trivial⟩ ⟨hE123, ?_⟩ ?_
          ·
           try dsimp only
           rw [hc2] at hI121
           refine ⟨hI121, by omega, ?_, by omega, by rw [Nat.pow_succ]; omega, by omega⟩
           rw [hS, drop_el (by rw [bl_len]; omega), scan, bl_el (by omega), hc1, stp_dig hd9, if_neg (by first | assumption | omega)]
           simp only [Option.bind_some]
           have e1 : (if 0 ≤ ((k : Nat) : Int) then ((k : Nat) : Int) + 1 else ((k : Nat) : Int)) = (((k + 1) : Nat) : Int) := by first | (rw [if_pos (by omega)]; omega) | (rw [if_neg (by omega)]; done)
           rw [e1, show 10 * n + ((Utf8.decode s i).1 - 48) = n * 10 + ((Utf8.decode s i).1 - 48) by omega]
           rfl
          ·
           (try dsimp only); omega
         ·
          refine skip ?_
          refine kn139 _ _ ?_
          refine kn130 _ _ ?_
          refine kn40 _ ((i + 1), ((n * 10) + (((Utf8.decode s i).1) - 48)), (d + 1), b, m) _ ⟨rfl, rfl, rfl, rfl, rfl, trivial⟩ ⟨hE123, ?_⟩ ?_
          ·
           try dsimp only
           rw [hc2] at hI121
           refine ⟨hI121, by omega, ?_, by omega, by rw [Nat.pow_succ]; omega, by omega⟩
           rw [hS, drop_el (by rw [bl_len]; omega), scan, bl_el (by omega), hc1, stp_dig hd9, if_neg (by first | assumption | omega)]
           simp only [Option.bind_some]
           have e1 : (if 0 ≤ b then b + 1 else b) = b := by first | (rw [if_pos (by omega)]; omega) | (rw [if_neg (by omega)]; done)
           rw [e1, show 10 * n + ((Utf8.decode s i).1 - 48) = n * 10 + ((Utf8.decode s i).1 - 48) by omega]
           rfl
          ·
           (try dsimp only); omega
       ·
        refine seqK fun Q181 kn182 kr183 ke184 => ?_
        refine region ?_
        refine st_q (v := .int .i32 ((((Utf8.decode s i).1) : Nat) : Int)) (x_move rfl) ?_
        refine st_q (v := .bool (decide ((((Utf8.decode s i).1)) = 46))) (x_eqlN rfl rfl) ?_
        refine st_if (p := (((Utf8.decode s i).1)) = 46) (x_move rfl) (fun h185 => ?_) (fun h185 => ?_)
        ·
         refine st_gq 2 48 rfl rfl (by decide) ?_
         refine st_q (v := .int .i64 b) (x_move rfl) ?_
         refine st_gq 2 48 rfl rfl (by decide) ?_
         refine st_q (v := .bool (decide (b < 0))) (x_lss rfl rfl) ?_
         refine st_q (v := .bool (decide (b < 0))) (x_pickT rfl rfl) ?_
         refine st_if (p := b < 0) (x_move rfl) (fun h186 => ?_) (fun h186 => ?_)
         ·
          refine st_gq 6 52 rfl rfl (by decide) ?_
          refine st_q (v := .int .i64 ((d : Nat) : Int)) (x_move rfl) ?_
          refine st_gq 6 52 rfl rfl (by decide) ?_
          refine st_q (v := .bool (decide (0 < d))) (x_gtrN rfl rfl) ?_
          refine st_q (v := .bool (decide (0 < d))) (x_pickT rfl rfl) ?_
          refine st_q (v := .bool (decide (0 < d))) (x_assign rfl) ?_
          refine st_nil ?_
          refine kn182 _ _ ?_
          refine cnd (p := 0 < d) rfl (fun h187 => ?_) (fun h187 => ?_)
          ·
           refine region ?_
           refine st_q (v := .int .i64 ((0 : Nat) : Int)) (x_assign rfl) ?_
           refine st_nil ?_
           refine kn139 _ _ ?_
           refine kn130 _ _ ?_
           refine kn40 _ ((i + 1), n, d, 0, m) _ ⟨rfl, rfl, rfl, rfl, rfl, trivial⟩ ⟨hE123, ?_⟩ ?_
           ·
            try dsimp only
            obtain ⟨hc1, hc2⟩ := dec_is (s := s) (i := i) (c := 46) (by omega) (by omega)
            rw [hc2] at hI121
            refine ⟨hI121, by omega, ?_, by omega, by omega, by omega⟩
            rw [hS, drop_el (by rw [bl_len]; omega), scan, bl_el (by omega), hc1]
            have e : stp ⟨decide (i = 0), m, n, d, b⟩ 46 = some ⟨false, m, n, d, 0⟩ := by
              unfold stp; rw [if_neg (by simp), if_neg (by decide), if_pos ⟨rfl, by omega, by omega⟩]
            rw [e]
            rfl
           ·
            (try dsimp only); omega
          ·
           refine seqK fun Q188 kn189 kr190 ke191 => ?_
           refine region ?_
           refine st_q (v := .float .f64 0) (x_assign rfl) ?_
           refine st_q (v := .bool false) (x_assign rfl) ?_
           refine st_nil ?_
           refine kn189 _ _ ?_
           refine ret ?_
           refine kr140 _ _ ?_
           refine kr131 _ _ ?_
           refine kr41 _ _ ?_
           refine kr31 _ _ ?_
           refine kr15 _ _ ?_
           refine leave2 (P := Tryd.prog) (fn := Tryd.f9) (t := 2) (u := 3) (v := .float .f64 0) (v' := .bool false) rfl rfl rfl ?_
           have e0 : numL (bl s) = none := by
             rw [← scan_numL, hS, drop_el (by rw [bl_len]; omega), scan, bl_el (by omega), scan_stop (by simp only [decide_eq_true_eq]; omega) (fun hd => by unfold dig at hd; dsimp only; omega) (by dsimp only; omega)]
             first | done | rfl
           exact ⟨by rw [e0]; rfl, hE123⟩
         ·
          refine st_gn 6 52 rfl rfl (by decide) rfl ?_
          refine st_gn 6 52 rfl rfl (by decide) rfl ?_
          refine st_q (v := .bool false) (x_pickF rfl rfl) ?_
          refine st_q (v := .bool false) (x_assign rfl) ?_
          refine st_nil ?_
          refine kn182 _ _ ?_
          refine cndF rfl ?_
          refine seqK fun Q192 kn193 kr194 ke195 => ?_
          refine region ?_
          refine st_q (v := .float .f64 0) (x_assign rfl) ?_
          refine st_q (v := .bool false) (x_assign rfl) ?_
          refine st_nil ?_
          refine kn193 _ _ ?_
          refine ret ?_
          refine kr140 _ _ ?_
          refine kr131 _ _ ?_
          refine kr41 _ _ ?_
          refine kr31 _ _ ?_
          refine kr15 _ _ ?_
          refine leave2 (P := Tryd.prog) (fn := Tryd.f9) (t := 2) (u := 3) (v := .float .f64 0) (v' := .bool false) rfl rfl rfl ?_
          have e0 : numL (bl s) = none := by
            rw [← scan_numL, hS, drop_el (by rw [bl_len]; omega), scan, bl_el (by omega), scan_stop (by simp only [decide_eq_true_eq]; omega) (fun hd => by unfold dig at hd; dsimp only; omega) (by dsimp only; omega)]
            first | done | rfl
          exact ⟨by rw [e0]; rfl, hE123⟩
        ·
         refine st_gn 2 48 rfl rfl (by decide) rfl ?_
         refine st_gn 2 48 rfl rfl (by decide) rfl ?_
         refine st_q (v := .bool false) (x_pickF rfl rfl) ?_
         refine st_q (v := .bool false) (x_move rfl) ?_
         refine st_gn 6 52 rfl rfl (by decide) rfl ?_
         refine st_gn 6 52 rfl rfl (by decide) rfl ?_
         refine st_q (v := .bool false) (x_pickF rfl rfl) ?_
         refine st_q (v := .bool false) (x_assign rfl) ?_
         refine st_nil ?_
         refine kn182 _ _ ?_
         refine cndF rfl ?_
         refine seqK fun Q196 kn197 kr198 ke199 => ?_
         refine region ?_
         refine st_q (v := .float .f64 0) (x_assign rfl) ?_
         refine st_q (v := .bool false) (x_assign rfl) ?_
         refine st_nil ?_
         refine kn197 _ _ ?_
         refine ret ?_
         refine kr140 _ _ ?_
         refine kr131 _ _ ?_
         refine kr41 _ _ ?_
         refine kr31 _ _ ?_
         refine kr15 _ _ ?_
         refine leave2 (P := Tryd.prog) (fn := Tryd.f9) (t := 2) (u := 3) (v := .float .f64 0) (v' := .bool false) rfl rfl rfl ?_
         have e0 : numL (bl s) = none := by
           rw [← scan_numL, hS, drop_el (by rw [bl_len]; omega), scan, bl_el (by omega), scan_stop (by simp only [decide_eq_true_eq]; omega) (fun hd => by unfold dig at hd; dsimp only; omega) (by dsimp only; omega)]
           first | done | rfl
         exact ⟨by rw [e0]; rfl, hE123⟩
      ·
       refine st_gn 2 27 rfl rfl (by decide) rfl ?_
       refine st_gn 2 27 rfl rfl (by decide) rfl ?_
       refine st_q (v := .bool false) (x_pickF rfl rfl) ?_
       refine st_q (v := .bool false) (x_assign rfl) ?_
       refine st_nil ?_
       refine kn150 _ _ ?_
       refine cndF rfl ?_
       refine seqK fun Q200 kn201 kr202 ke203 => ?_
       refine region ?_
       refine st_q (v := .int .i32 ((((Utf8.decode s i).1) : Nat) : Int)) (x_move rfl) ?_
       refine st_q (v := .bool (decide ((((Utf8.decode s i).1)) = 46))) (x_eqlN rfl rfl) ?_
       refine st_if (p := (((Utf8.decode s i).1)) = 46) (x_move rfl) (fun h204 => ?_) (fun h204 => ?_)
       ·
        refine st_gq 2 48 rfl rfl (by decide) ?_
        refine st_q (v := .int .i64 b) (x_move rfl) ?_
        refine st_gq 2 48 rfl rfl (by decide) ?_
        refine st_q (v := .bool (decide (b < 0))) (x_lss rfl rfl) ?_
        refine st_q (v := .bool (decide (b < 0))) (x_pickT rfl rfl) ?_
        refine st_if (p := b < 0) (x_move rfl) (fun h205 => ?_) (fun h205 => ?_)
        ·
         refine st_gq 6 52 rfl rfl (by decide) ?_
         refine st_q (v := .int .i64 ((d : Nat) : Int)) (x_move rfl) ?_
         refine st_gq 6 52 rfl rfl (by decide) ?_
         refine st_q (v := .bool (decide (0 < d))) (x_gtrN rfl rfl) ?_
         refine st_q (v := .bool (decide (0 < d))) (x_pickT rfl rfl) ?_
         refine st_q (v := .bool (decide (0 < d))) (x_assign rfl) ?_
         refine st_nil ?_
         refine kn201 _ _ ?_
         refine cnd (p := 0 < d) rfl (fun h206 => ?_) (fun h206 => ?_)
         ·
          refine region ?_
          refine st_q (v := .int .i64 ((0 : Nat) : Int)) (x_assign rfl) ?_
          refine st_nil ?_
          refine kn139 _ _ ?_
          refine kn130 _ _ ?_
          refine kn40 _ ((i + 1), n, d, 0, m) _ ⟨rfl, rfl, rfl, rfl, rfl, trivial⟩ ⟨hE123, ?_⟩ ?_
          ·
           try dsimp only
           obtain ⟨hc1, hc2⟩ := dec_is (s := s) (i := i) (c := 46) (by omega) (by omega)
           rw [hc2] at hI121
           refine ⟨hI121, by omega, ?_, by omega, by omega, by omega⟩
           rw [hS, drop_el (by rw [bl_len]; omega), scan, bl_el (by omega), hc1]
           have e : stp ⟨decide (i = 0), m, n, d, b⟩ 46 = some ⟨false, m, n, d, 0⟩ := by
             unfold stp; rw [if_neg (by simp), if_neg (by decide), if_pos ⟨rfl, by omega, by omega⟩]
           rw [e]
           rfl
          ·
           (try dsimp only); omega
         ·
          refine seqK fun Q207 kn208 kr209 ke210 => ?_
          refine region ?_
          refine st_q (v := .float .f64 0) (x_assign rfl) ?_
          refine st_q (v := .bool false) (x_assign rfl) ?_
          refine st_nil ?_
          refine kn208 _ _ ?_
          refine ret ?_
          refine kr140 _ _ ?_
          refine kr131 _ _ ?_
          refine kr41 _ _ ?_
          refine kr31 _ _ ?_
          refine kr15 _ _ ?_
          refine leave2 (P := Tryd.prog) (fn := Tryd.f9) (t := 2) (u := 3) (v := .float .f64 0) (v' := .bool false) rfl rfl rfl ?_
          have e0 : numL (bl s) = none := by
            rw [← scan_numL, hS, drop_el (by rw [bl_len]; omega), scan, bl_el (by omega), scan_stop (by simp only [decide_eq_true_eq]; omega) (fun hd => by unfold dig at hd; dsimp only; omega) (by dsimp only; omega)]
            first | done | rfl
          exact ⟨by rw [e0]; rfl, hE123⟩
        ·
         refine st_gn 6 52 rfl rfl (by decide) rfl ?_
         refine st_gn 6 52 rfl rfl (by decide) rfl ?_
         refine st_q (v := .bool false) (x_pickF rfl rfl) ?_
         refine st_q (v := .bool false) (x_assign rfl) ?_
         refine st_nil ?_
         refine kn201 _ _ ?_
         refine cndF rfl ?_
         refine seqK fun Q211 kn212 kr213 ke214 => ?_
         refine region ?_
         refine st_q (v := .float .f64 0) (x_assign rfl) ?_
         refine st_q (v := .bool false) (x_assign rfl) ?_
         refine st_nil ?_
         refine kn212 _ _ ?_
         refine ret ?_
         refine kr140 _ _ ?_
         refine kr131 _ _ ?_
         refine kr41 _ _ ?_
         refine kr31 _ _ ?_
         refine kr15 _ _ ?_
         refine leave2 (P := Tryd.prog) (fn := Tryd.f9) (t := 2) (u := 3) (v := .float .f64 0) (v' := .bool false) rfl rfl rfl ?_
         have e0 : numL (bl s) = none := by
           rw [← scan_numL, hS, drop_el (by rw [bl_len]; omega), scan, bl_el (by omega), scan_stop (by simp only [decide_eq_true_eq]; omega) (fun hd => by unfold dig at hd; dsimp only; omega) (by dsimp only; omega)]
           first | done | rfl
         exact ⟨by rw [e0]; rfl, hE123⟩
       ·
        refine st_gn 2 48 rfl rfl (by decide) rfl ?_
        refine st_gn 2 48 rfl rfl (by decide) rfl ?_
        refine st_q (v := .bool false) (x_pickF rfl rfl) ?_
        refine st_q (v := .bool false) (x_move rfl) ?_
        refine st_gn 6 52 rfl rfl (by decide) rfl ?_
        refine st_gn 6 52 rfl rfl (by decide) rfl ?_
        refine st_q (v := .bool false) (x_pickF rfl rfl) ?_
        refine st_q (v := .bool false) (x_assign rfl) ?_
        refine st_nil ?_
        refine kn201 _ _ ?_
        refine cndF rfl ?_
        refine seqK fun Q215 kn216 kr217 ke218 => ?_
        refine region ?_
        refine st_q (v := .float .f64 0) (x_assign rfl) ?_
        refine st_q (v := .bool false) (x_assign rfl) ?_
        refine st_nil ?_
        refine kn216 _ _ ?_
        refine ret ?_
        refine kr140 _ _ ?_
        refine kr131 _ _ ?_
        refine kr41 _ _ ?_
        refine kr31 _ _ ?_
        refine kr15 _ _ ?_
        refine leave2 (P := Tryd.prog) (fn := Tryd.f9) (t := 2) (u := 3) (v := .float .f64 0) (v' := .bool false) rfl rfl rfl ?_
        have e0 : numL (bl s) = none := by
          rw [← scan_numL, hS, drop_el (by rw [bl_len]; omega), scan, bl_el (by omega), scan_stop (by simp only [decide_eq_true_eq]; omega) (fun hd => by unfold dig at hd; dsimp only; omega) (by dsimp only; omega)]
          first | done | rfl
        exact ⟨by rw [e0]; rfl, hE123⟩
    ·
     refine st_gn 2 20 rfl rfl (by decide) rfl ?_
     refine st_gn 2 20 rfl rfl (by decide) rfl ?_
     refine st_q (v := .bool false) (x_pickF rfl rfl) ?_
     refine st_q (v := .bool false) (x_assign rfl) ?_
     refine st_nil ?_
     refine kn144 _ _ ?_
     refine cndF rfl ?_
     refine seqK fun Q219 kn220 kr221 ke222 => ?_
     refine region ?_
     refine st_q (v := .int .i32 ((((Utf8.decode s i).1) : Nat) : Int)) (x_move rfl) ?_
     refine st_q (v := .bool (decide (48 ≤ (((Utf8.decode s i).1))))) (x_geqN rfl rfl) ?_
     refine st_if (p := 48 ≤ (((Utf8.decode s i).1))) (x_move rfl) (fun h223 => ?_) (fun h223 => ?_)
     ·
      refine st_gq 2 27 rfl rfl (by decide) ?_
      refine st_q (v := .int .i32 ((((Utf8.decode s i).1) : Nat) : Int)) (x_move rfl) ?_
      refine st_gq 2 27 rfl rfl (by decide) ?_
      refine st_q (v := .bool (decide ((((Utf8.decode s i).1)) ≤ 57))) (x_leqN rfl rfl) ?_
      refine st_q (v := .bool (decide ((((Utf8.decode s i).1)) ≤ 57))) (x_pickT rfl rfl) ?_
      refine st_q (v := .bool (decide ((((Utf8.decode s i).1)) ≤ 57))) (x_assign rfl) ?_
      refine st_nil ?_
      refine kn220 _ _ ?_
      refine cnd (p := (((Utf8.decode s i).1)) ≤ 57) rfl (fun h224 => ?_) (fun h224 => ?_)
      ·
       refine seqK fun Q225 kn226 kr227 ke228 => ?_
       refine seqK fun Q229 kn230 kr231 ke232 => ?_
       refine region ?_
       refine st_q (v := .int .i64 ((d : Nat) : Int)) (x_move rfl) ?_
       refine st_q (v := .bool (decide (d = 15))) (x_eqlN rfl rfl) ?_
       refine st_nil ?_
       refine kn230 _ _ ?_
       refine cnd (p := d = 15) rfl (fun h233 => ?_) (fun h233 => ?_)
       ·
        refine seqK fun Q234 kn235 kr236 ke237 => ?_
        refine region ?_
        refine st_q (v := .float .f64 0) (x_assign rfl) ?_
        refine st_q (v := .bool false) (x_assign rfl) ?_
        refine st_nil ?_
        refine kn235 _ _ ?_
        refine ret ?_
        refine kr227 _ _ ?_
        refine kr140 _ _ ?_
        refine kr131 _ _ ?_
        refine kr41 _ _ ?_
        refine kr31 _ _ ?_
        refine kr15 _ _ ?_
        refine leave2 (P := Tryd.prog) (fn := Tryd.f9) (t := 2) (u := 3) (v := .float .f64 0) (v' := .bool false) rfl rfl rfl ?_
        have e0 : numL (bl s) = none := by
          rw [← scan_numL, hS, drop_el (by rw [bl_len]; omega), scan, bl_el (by omega), scan_stop (by simp only [decide_eq_true_eq]; omega) (fun hd => by unfold dig at hd; dsimp only; omega) (by dsimp only; omega)]
          first | done | rfl
        exact ⟨by rw [e0]; rfl, hE123⟩
       ·
        refine skip ?_
        refine kn226 _ _ ?_
        refine seqK fun Q238 kn239 kr240 ke241 => ?_
        refine region ?_
        have hd9 : dig (Utf8.decode s i).1 := ⟨by omega, by omega⟩
        have hp15 := Nat.pow_le_pow_right (show 0 < 10 by decide) (show d ≤ 14 by omega)
        obtain ⟨hc1, hc2⟩ := dec_is (s := s) (i := i) rfl (by omega)
        refine st_q (v := .int .i64 ((n : Nat) : Int)) (x_move rfl) ?_
        refine st_q (v := .int .i64 (((n * 10) : Nat) : Int)) (x_mulN rfl rfl (by omega)) ?_
        refine st_q (v := .int .i32 ((((Utf8.decode s i).1) : Nat) : Int)) (x_move rfl) ?_
        refine st_q (v := .int .i32 (((((Utf8.decode s i).1) - 48) : Nat) : Int)) (x_subK rfl rfl (by omega) (by omega)) ?_
        refine st_q (v := .int .i64 (((((Utf8.decode s i).1) - 48) : Nat) : Int)) (x_conv Tryd.underlying3 Tryd.underlying21 rfl (.inr ⟨by simp, by omega⟩)) ?_
        refine st_q (v := .int .i64 ((((n * 10) + (((Utf8.decode s i).1) - 48)) : Nat) : Int)) (x_addN rfl rfl (by omega)) ?_
        refine st_q (v := .int .i64 ((((n * 10) + (((Utf8.decode s i).1) - 48)) : Nat) : Int)) (x_assign rfl) ?_
        refine st_nil ?_
        refine kn239 _ _ ?_
        refine seqK fun Q242 kn243 kr244 ke245 => ?_
        refine region ?_
        refine st_q (v := .int .i64 ((d : Nat) : Int)) (x_move rfl) ?_
        refine st_q (v := .int .i64 (((d + 1) : Nat) : Int)) (x_addN rfl rfl (by omega)) ?_
        refine st_q (v := .int .i64 (((d + 1) : Nat) : Int)) (x_assign rfl) ?_
        refine st_nil ?_
        refine kn243 _ _ ?_
        refine seqK fun Q246 kn247 kr248 ke249 => ?_
        refine region ?_
        refine st_q (v := .int .i64 b) (x_move rfl) ?_
        refine st_q (v := .bool (decide (0 ≤ b))) (x_geq rfl rfl) ?_
        refine st_nil ?_
        refine kn247 _ _ ?_
        refine cnd (p := 0 ≤ b) rfl (fun h250 => ?_) (fun h250 => ?_)
        ·
         refine region ?_
         obtain ⟨k, rfl⟩ : ∃ k : Nat, b = ((k : Nat) : Int) := ⟨b.toNat, by omega⟩
         refine st_q (v := .int .i64 ((k : Nat) : Int)) (x_move rfl) ?_
         refine st_q (v := .int .i64 (((k + 1) : Nat) : Int)) (x_addN rfl rfl (by omega)) ?_
         refine st_q (v := .int .i64 (((k + 1) : Nat) : Int)) (x_assign rfl) ?_
         refine st_nil ?_
         refine kn139 _ _ ?_
         refine kn130 _ _ ?_
         refine kn40 _ ((i + 1), ((n * 10) + (((Utf8.decode s i).1) - 48)), (d + 1), (((k + 1) : Nat) : Int), m) _ ⟨rfl, rfl, rfl, rfl, rfl, trivial⟩ ⟨hE123, ?_⟩ ?_
         ·
          try dsimp only
          rw [hc2] at hI121
          refine ⟨hI121, by omega, ?_, by omega, by rw [Nat.pow_succ]; omega, by omega⟩
          rw [hS, drop_el (by rw [bl_len]; omega), scan, bl_el (by omega), hc1, stp_dig hd9, if_neg (by first | assumption | omega)]
          simp only [Option.bind_some]
          have e1 : (if 0 ≤ ((k : Nat) : Int) then ((k : Nat) : Int) + 1 else ((k : Nat) : Int)) = (((k + 1) : Nat) : Int) := by first | (rw [if_pos (by omega)]; omega) | (rw [if_neg (by omega)]; done)
          rw [e1, show 10 * n + ((Utf8.decode s i).1 - 48) = n * 10 + ((Utf8.decode s i).1 - 48) by omega]
          rfl
         ·
          (try dsimp only); omega
        ·
         refine skip ?_
         refine kn139 _ _ ?_
         refine kn130 _ _ ?_
         refine kn40 _ ((i + 1), ((n * 10) + (((Utf8.decode s i).1) - 48)), (d + 1), b, m) _ ⟨rfl, rfl, rfl, rfl, rfl, trivial⟩ ⟨hE123, ?_⟩ ?_
         ·
          try dsimp only
          rw [hc2] at hI121
          refine ⟨hI121, by omega, ?_, by omega, by rw [Nat.pow_succ]; omega, by omega⟩
          rw [hS, drop_el (by rw [bl_len]; omega), scan, bl_el (by omega), hc1, stp_dig hd9, if_neg (by first | assumption | omega)]
          simp only [Option.bind_some]
          have e1 : (if 0 ≤ b then b + 1 else b) = b := by first | (rw [if_pos (by omega)]; omega) | (rw [if_neg (by omega)]; done)
          rw [e1, show 10 * n + ((Utf8.decode s i).1 - 48) = n * 10 + ((Utf8.decode s i).1 - 48) by omega]
          rfl
         ·
          (try dsimp only); omega
      ·
       refine seqK fun Q251 kn252 kr253 ke254 => ?_
       refine region ?_
       refine st_q (v := .int .i32 ((((Utf8.decode s i).1) : Nat) : Int)) (x_move rfl) ?_
       refine st_q (v := .bool (decide ((((Utf8.decode s i).1)) = 46))) (x_eqlN rfl rfl) ?_
       refine st_if (p := (((Utf8.decode s i).1)) = 46) (x_move rfl) (fun h255 => ?_) (fun h255 => ?_)
       ·
        refine st_gq 2 48 rfl rfl (by decide) ?_
        refine st_q (v := .int .i64 b) (x_move rfl) ?_
        refine st_gq 2 48 rfl rfl (by decide) ?_
        refine st_q (v := .bool (decide (b < 0))) (x_lss rfl rfl) ?_
        refine st_q (v := .bool (decide (b < 0))) (x_pickT rfl rfl) ?_
        refine st_if (p := b < 0) (x_move rfl) (fun h256 => ?_) (fun h256 => ?_)
        ·
         refine st_gq 6 52 rfl rfl (by decide) ?_
         refine st_q (v := .int .i64 ((d : Nat) : Int)) (x_move rfl) ?_
         refine st_gq 6 52 rfl rfl (by decide) ?_
         refine st_q (v := .bool (decide (0 < d))) (x_gtrN rfl rfl) ?_
         refine st_q (v := .bool (decide (0 < d))) (x_pickT rfl rfl) ?_
         refine st_q (v := .bool (decide (0 < d))) (x_assign rfl) ?_
         refine st_nil ?_
         refine kn252 _ _ ?_
         refine cnd (p := 0 < d) rfl (fun h257 => ?_) (fun h257 => ?_)
         ·
          refine region ?_
          refine st_q (v := .int .i64 ((0 : Nat) : Int)) (x_assign rfl) ?_
          refine st_nil ?_
          refine kn139 _ _ ?_
          refine kn130 _ _ ?_
          refine kn40 _ ((i + 1), n, d, 0, m) _ ⟨rfl, rfl, rfl, rfl, rfl, trivial⟩ ⟨hE123, ?_⟩ ?_
          ·
           try dsimp only
           obtain ⟨hc1, hc2⟩ := dec_is (s := s) (i := i) (c := 46) (by omega) (by omega)
           rw [hc2] at hI121
           refine ⟨hI121, by omega, ?_, by omega, by omega, by omega⟩
           rw [hS, drop_el (by rw [bl_len]; omega), scan, bl_el (by omega), hc1]
           have e : stp ⟨decide (i = 0), m, n, d, b⟩ 46 = some ⟨false, m, n, d, 0⟩ := by
             unfold stp; rw [if_neg (by simp), if_neg (by decide), if_pos ⟨rfl, by omega, by omega⟩]
           rw [e]
           rfl
          ·
           (try dsimp only); omega
         ·
          refine seqK fun Q258 kn259 kr260 ke261 => ?_
          refine region ?_
          refine st_q (v := .float .f64 0) (x_assign rfl) ?_
          refine st_q (v := .bool false) (x_assign rfl) ?_
          refine st_nil ?_
          refine kn259 _ _ ?_
          refine ret ?_
          refine kr140 _ _ ?_
          refine kr131 _ _ ?_
          refine kr41 _ _ ?_
          refine kr31 _ _ ?_
          refine kr15 _ _ ?_
          refine leave2 (P := Tryd.prog) (fn := Tryd.f9) (t := 2) (u := 3) (v := .float .f64 0) (v' := .bool false) rfl rfl rfl ?_
          have e0 : numL (bl s) = none := by
            rw [← scan_numL, hS, drop_el (by rw [bl_len]; omega), scan, bl_el (by omega), scan_stop (by simp only [decide_eq_true_eq]; omega) (fun hd => by unfold dig at hd; dsimp only; omega) (by dsimp only; omega)]
            first | done | rfl
          exact ⟨by rw [e0]; rfl, hE123⟩
        ·
         refine st_gn 6 52 rfl rfl (by decide) rfl ?_
         refine st_gn 6 52 rfl rfl (by decide) rfl ?_
         refine st_q (v := .bool false) (x_pickF rfl rfl) ?_
         refine st_q (v := .bool false) (x_assign rfl) ?_
         refine st_nil ?_
         refine kn252 _ _ ?_
         refine cndF rfl ?_
         refine seqK fun Q262 kn263 kr264 ke265 => ?_
         refine region ?_
         refine st_q (v := .float .f64 0) (x_assign rfl) ?_
         refine st_q (v := .bool false) (x_assign rfl) ?_
         refine st_nil ?_
         refine kn263 _ _ ?_
         refine ret ?_
         refine kr140 _ _ ?_
         refine kr131 _ _ ?_
         refine kr41 _ _ ?_
         refine kr31 _ _ ?_
         refine kr15 _ _ ?_
         refine leave2 (P := Tryd.prog) (fn := Tryd.f9) (t := 2) (u := 3) (v := .float .f64 0) (v' := .bool false) rfl rfl rfl ?_
         have e0 : numL (bl s) = none := by
           rw [← scan_numL, hS, drop_el (by rw [bl_len]; omega), scan, bl_el (by omega), scan_stop (by simp only [decide_eq_true_eq]; omega) (fun hd => by unfold dig at hd; dsimp only; omega) (by dsimp only; omega)]
           first | done | rfl
         exact ⟨by rw [e0]; rfl, hE123⟩
       ·
        refine st_gn 2 48 rfl rfl (by decide) rfl ?_
        refine st_gn 2 48 rfl rfl (by decide) rfl ?_
        refine st_q (v := .bool false) (x_pickF rfl rfl) ?_
        refine st_q (v := .bool false) (x_move rfl) ?_
        refine st_gn 6 52 rfl rfl (by decide) rfl ?_
        refine st_gn 6 52 rfl rfl (by decide) rfl ?_
        refine st_q (v := .bool false) (x_pickF rfl rfl) ?_
        refine st_q (v := .bool false) (x_assign rfl) ?_
        refine st_nil ?_
        refine kn252 _ _ ?_
        refine cndF rfl ?_
        refine seqK fun Q266 kn267 kr268 ke269 => ?_
        refine region ?_
        refine st_q (v := .float .f64 0) (x_assign rfl) ?_
        refine st_q (v := .bool false) (x_assign rfl) ?_
        refine st_nil ?_
        refine kn267 _ _ ?_
        refine ret ?_
        refine kr140 _ _ ?_
        refine kr131 _ _ ?_
        refine kr41 _ _ ?_
        refine kr31 _ _ ?_
        refine kr15 _ _ ?_
        refine leave2 (P := Tryd.prog) (fn := Tryd.f9) (t := 2) (u := 3) (v := .float .f64 0) (v' := .bool false) rfl rfl rfl ?_
        have e0 : numL (bl s) = none := by
          rw [← scan_numL, hS, drop_el (by rw [bl_len]; omega), scan, bl_el (by omega), scan_stop (by simp only [decide_eq_true_eq]; omega) (fun hd => by unfold dig at hd; dsimp only; omega) (by dsimp only; omega)]
          first | done | rfl
        exact ⟨by rw [e0]; rfl, hE123⟩
     ·
      refine st_gn 2 27 rfl rfl (by decide) rfl ?_
      refine st_gn 2 27 rfl rfl (by decide) rfl ?_
      refine st_q (v := .bool false) (x_pickF rfl rfl) ?_
      refine st_q (v := .bool false) (x_assign rfl) ?_
      refine st_nil ?_
      refine kn220 _ _ ?_
      refine cndF rfl ?_
      refine seqK fun Q270 kn271 kr272 ke273 => ?_
      refine region ?_
      refine st_q (v := .int .i32 ((((Utf8.decode s i).1) : Nat) : Int)) (x_move rfl) ?_
      refine st_q (v := .bool (decide ((((Utf8.decode s i).1)) = 46))) (x_eqlN rfl rfl) ?_
      refine st_if (p := (((Utf8.decode s i).1)) = 46) (x_move rfl) (fun h274 => ?_) (fun h274 => ?_)
      ·
       refine st_gq 2 48 rfl rfl (by decide) ?_
       refine st_q (v := .int .i64 b) (x_move rfl) ?_
       refine st_gq 2 48 rfl rfl (by decide) ?_
       refine st_q (v := .bool (decide (b < 0))) (x_lss rfl rfl) ?_
       refine st_q (v := .bool (decide (b < 0))) (x_pickT rfl rfl) ?_
       refine st_if (p := b < 0) (x_move rfl) (fun h275 => ?_) (fun h275 => ?_)
       ·
        refine st_gq 6 52 rfl rfl (by decide) ?_
        refine st_q (v := .int .i64 ((d : Nat) : Int)) (x_move rfl) ?_
        refine st_gq 6 52 rfl rfl (by decide) ?_
        refine st_q (v := .bool (decide (0 < d))) (x_gtrN rfl rfl) ?_
        refine st_q (v := .bool (decide (0 < d))) (x_pickT rfl rfl) ?_
        refine st_q (v := .bool (decide (0 < d))) (x_assign rfl) ?_
        refine st_nil ?_
        refine kn271 _ _ ?_
        refine cnd (p := 0 < d) rfl (fun h276 => ?_) (fun h276 => ?_)
        ·
         refine region ?_
         refine st_q (v := .int .i64 ((0 : Nat) : Int)) (x_assign rfl) ?_
         refine st_nil ?_
         refine kn139 _ _ ?_
         refine kn130 _ _ ?_
         refine kn40 _ ((i + 1), n, d, 0, m) _ ⟨rfl, rfl, rfl, rfl, rfl, trivial⟩ ⟨hE123, ?_⟩ ?_
         ·
          try dsimp only
          obtain ⟨hc1, hc2⟩ := dec_is (s := s) (i := i) (c := 46) (by omega) (by omega)
          rw [hc2] at hI121
          refine ⟨hI121, by omega, ?_, by omega, by omega, by omega⟩
          rw [hS, drop_el (by rw [bl_len]; omega), scan, bl_el (by omega), hc1]
          have e : stp ⟨decide (i = 0), m, n, d, b⟩ 46 = some ⟨false, m, n, d, 0⟩ := by
            unfold stp; rw [if_neg (by simp), if_neg (by decide), if_pos ⟨rfl, by omega, by omega⟩]
          rw [e]
          rfl
         ·
          (try dsimp only); omega
        ·
         refine seqK fun Q277 kn278 kr279 ke280 => ?_
         refine region ?_
         refine st_q (v := .float .f64 0) (x_assign rfl) ?_
         refine st_q (v := .bool false) (x_assign rfl) ?_
         refine st_nil ?_
         refine kn278 _ _ ?_
         refine ret ?_
         refine kr140 _ _ ?_
         refine kr131 _ _ ?_
         refine kr41 _ _ ?_
         refine kr31 _ _ ?_
         refine kr15 _ _ ?_
         refine leave2 (P := Tryd.prog) (fn := Tryd.f9) (t := 2) (u := 3) (v := .float .f64 0) (v' := .bool false) rfl rfl rfl ?_
         have e0 : numL (bl s) = none := by
           rw [← scan_numL, hS, drop_el (by rw [bl_len]; omega), scan, bl_el (by omega), scan_stop (by simp only [decide_eq_true_eq]; omega) (fun hd => by unfold dig at hd; dsimp only; omega) (by dsimp only; omega)]
           first | done | rfl
         exact ⟨by rw [e0]; rfl, hE123⟩
       ·
        refine st_gn 6 52 rfl rfl (by decide) rfl ?_
        refine st_gn 6 52 rfl rfl (by decide) rfl ?_
        refine st_q (v := .bool false) (x_pickF rfl rfl) ?_
        refine st_q (v := .bool false) (x_assign rfl) ?_
        refine st_nil ?_
        refine kn271 _ _ ?_
        refine cndF rfl ?_
        refine seqK fun Q281 kn282 kr283 ke284 => ?_
        refine region ?_
        refine st_q (v := .float .f64 0) (x_assign rfl) ?_
        refine st_q (v := .bool false) (x_assign rfl) ?_
        refine st_nil ?_
        refine kn282 _ _ ?_
        refine ret ?_
        refine kr140 _ _ ?_
        refine kr131 _ _ ?_
        refine kr41 _ _ ?_
        refine kr31 _ _ ?_
        refine kr15 _ _ ?_
        refine leave2 (P := Tryd.prog) (fn := Tryd.f9) (t := 2) (u := 3) (v := .float .f64 0) (v' := .bool false) rfl rfl rfl ?_
        have e0 : numL (bl s) = none := by
          rw [← scan_numL, hS, drop_el (by rw [bl_len]; omega), scan, bl_el (by omega), scan_stop (by simp only [decide_eq_true_eq]; omega) (fun hd => by unfold dig at hd; dsimp only; omega) (by dsimp only; omega)]
          first | done | rfl
        exact ⟨by rw [e0]; rfl, hE123⟩
      ·
       refine st_gn 2 48 rfl rfl (by decide) rfl ?_
       refine st_gn 2 48 rfl rfl (by decide) rfl ?_
       refine st_q (v := .bool false) (x_pickF rfl rfl) ?_
       refine st_q (v := .bool false) (x_move rfl) ?_
       refine st_gn 6 52 rfl rfl (by decide) rfl ?_
       refine st_gn 6 52 rfl rfl (by decide) rfl ?_
       refine st_q (v := .bool false) (x_pickF rfl rfl) ?_
       refine st_q (v := .bool false) (x_assign rfl) ?_
       refine st_nil ?_
       refine kn271 _ _ ?_
       refine cndF rfl ?_
       refine seqK fun Q285 kn286 kr287 ke288 => ?_
       refine region ?_
       refine st_q (v := .float .f64 0) (x_assign rfl) ?_
       refine st_q (v := .bool false) (x_assign rfl) ?_
       refine st_nil ?_
       refine kn286 _ _ ?_
       refine ret ?_
       refine kr140 _ _ ?_
       refine kr131 _ _ ?_
       refine kr41 _ _ ?_
       refine kr31 _ _ ?_
       refine kr15 _ _ ?_
       refine leave2 (P := Tryd.prog) (fn := Tryd.f9) (t := 2) (u := 3) (v := .float .f64 0) (v' := .bool false) rfl rfl rfl ?_
       have e0 : numL (bl s) = none := by
         rw [← scan_numL, hS, drop_el (by rw [bl_len]; omega), scan, bl_el (by omega), scan_stop (by simp only [decide_eq_true_eq]; omega) (fun hd => by unfold dig at hd; dsimp only; omega) (by dsimp only; omega)]
         first | done | rfl
       exact ⟨by rw [e0]; rfl, hE123⟩

end Go.Proofs.YtegpcbckiehleaaDoor
