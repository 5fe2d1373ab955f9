import Derived.Test.YtegpcbckiehleaaDoorRows
import Derived.Test.YtegpcbckiehleaaDoorSNum3
namespace Go.Proofs.YtegpcbckiehleaaDoor
open Go.RowKit Go.Eng Go.OrdPure Go.Flt
theorem T.sz22 : SZ Tryd.prog 22 1 := fun _ => by kernel_rfl
theorem T.na22 : NA Tryd.prog 22 := fun _ => by kernel_rfl
theorem T.cf30 : CF Tryd.prog 30 := fun _ _ => by kernel_rfl
theorem T.cf31 : CF Tryd.prog 31 := fun _ _ => by kernel_rfl

set_option maxHeartbeats 4000000 in
theorem digits30 (s : ByteArray) (w0 : World) (hs : s.size ≤ maxLen) : Calls Tryd.prog 30 #[.string s] w0 fun e w' => e = .returned (.bool (digs (bl s))) ∧ w0 = w' := by
  simp only [maxLen] at hs
  refine enter Tryd.func30 rfl 23 Tryd.ntmps30 rfl ?_
  refine seqK fun Q1 kn2 kr3 ke4 => ?_
  refine region ?_
  refine st_q (v := .bool false) (x_assign rfl) ?_
  refine st_nil ?_
  refine kn2 _ _ ?_
  refine seqK fun Q5 kn6 kr7 ke8 => ?_
  refine seqK fun Q9 kn10 kr11 ke12 => ?_
  refine region ?_
  refine st_q (v := .int .i64 ((0 : Nat) : Int)) (x_assign rfl) ?_
  refine st_nil ?_
  refine kn10 _ _ ?_
  refine blockK fun Q13 kn14 kr15 kx16 kb17 => ?_
  refine loopK (α := Nat) (fun x => [(0, .string s), (3, .int .i64 ((x : Nat) : Int))]) (fun x w18 => w0 = w18 ∧ x ≤ s.size ∧ ∀ j, j < x → dig (ch s j)) (fun x => s.size - x) (0) ⟨rfl, rfl, trivial⟩ ?_ ?_
  ·
   refine ⟨rfl, ?_⟩
   try dsimp only
   exact ⟨Nat.zero_le _, fun j h => by omega⟩
  ·
   rintro τ19 i w20 ⟨rfl, ⟨hi, hI⟩⟩
   try dsimp only at hi hI
   intro Q21 kn22 kr23 ke24
   refine seqK fun Q25 kn26 kr27 ke28 => ?_
   refine seqK fun Q29 kn30 kr31 ke32 => ?_
   refine region ?_
   refine st_q (v := .int .i64 ((i : Nat) : Int)) (x_move rfl) ?_
   refine st_q (v := .string s) (x_move rfl) ?_
   refine st_q (v := .int .i64 ((s.size : Nat) : Int)) (x_lenS rfl Tryd.underlying9 rfl) ?_
   refine st_q (v := .bool (decide (i < s.size))) (x_lssN rfl rfl) ?_
   refine st_nil ?_
   refine kn30 _ _ ?_
   refine cnd (p := i < s.size) rfl (fun h33 => ?_) (fun h33 => ?_)
   ·
    refine skip ?_
    refine kn26 _ _ ?_
    refine seqK fun Q34 kn35 kr36 ke37 => ?_
    refine blockK fun Q38 kn39 kr40 kx41 kb42 => ?_
    refine seqK fun Q43 kn44 kr45 ke46 => ?_
    refine region ?_
    refine st_q (v := .string s) (x_move rfl) ?_
    refine st_q (v := .int .i64 ((i : Nat) : Int)) (x_move rfl) ?_
    refine st_q (v := .int .u8 (((ch s i) : Nat) : Int)) (x_indexS Tryd.underlying9 rfl rfl (by omega)) ?_
    refine st_q (v := .bool (decide (((ch s i)) < 48))) (x_lssN rfl rfl) ?_
    refine st_if (p := ((ch s i)) < 48) (x_move rfl) (fun h47 => ?_) (fun h47 => ?_)
    ·
     refine st_gn 4 14 rfl rfl (by decide) rfl ?_
     refine st_gn 4 14 rfl rfl (by decide) rfl ?_
     refine st_gn 4 14 rfl rfl (by decide) rfl ?_
     refine st_gn 4 14 rfl rfl (by decide) rfl ?_
     refine st_q (v := .bool true) (x_pickT rfl rfl) ?_
     refine st_nil ?_
     refine kn44 _ _ ?_
     refine cndT rfl ?_
     refine seqK fun Q48 kn49 kr50 ke51 => ?_
     refine region ?_
     refine st_q (v := .bool false) (x_assign rfl) ?_
     refine st_nil ?_
     refine kn49 _ _ ?_
     refine ret ?_
     refine kr40 _ _ ?_
     refine kr36 _ _ ?_
     refine kr23 _ _ ?_
     refine kr15 _ _ ?_
     refine kr7 _ _ ?_
     refine leave1 (P := Tryd.prog) (fn := Tryd.f30) (t := 2) (v := .bool false) rfl rfl ?_
     exact ⟨by rw [digs_no (i := i) (by rw [bl_len]; omega) (by rw [bl_el (by omega)]; unfold dig; omega)], rfl⟩
    ·
     refine st_gq 4 14 rfl rfl (by decide) ?_
     refine st_q (v := .string s) (x_move rfl) ?_
     refine st_gq 4 14 rfl rfl (by decide) ?_
     refine st_q (v := .int .i64 ((i : Nat) : Int)) (x_move rfl) ?_
     refine st_gq 4 14 rfl rfl (by decide) ?_
     refine st_q (v := .int .u8 (((ch s i) : Nat) : Int)) (x_indexS Tryd.underlying9 rfl rfl (by omega)) ?_
     refine st_gq 4 14 rfl rfl (by decide) ?_
     refine st_q (v := .bool (decide (57 < ((ch s i))))) (x_gtrN rfl rfl) ?_
     refine st_q (v := .bool (decide (57 < ((ch s i))))) (x_pickF rfl rfl) ?_
     refine st_nil ?_
     refine kn44 _ _ ?_
     refine cnd (p := 57 < ((ch s i))) rfl (fun h52 => ?_) (fun h52 => ?_)
     ·
      refine seqK fun Q53 kn54 kr55 ke56 => ?_
      refine region ?_
      refine st_q (v := .bool false) (x_assign rfl) ?_
      refine st_nil ?_
      refine kn54 _ _ ?_
      refine ret ?_
      refine kr40 _ _ ?_
      refine kr36 _ _ ?_
      refine kr23 _ _ ?_
      refine kr15 _ _ ?_
      refine kr7 _ _ ?_
      refine leave1 (P := Tryd.prog) (fn := Tryd.f30) (t := 2) (v := .bool false) rfl rfl ?_
      exact ⟨by rw [digs_no (i := i) (by rw [bl_len]; omega) (by rw [bl_el (by omega)]; unfold dig; omega)], rfl⟩
     ·
      refine skip ?_
      refine kn39 _ _ ?_
      refine kn35 _ _ ?_
      refine region ?_
      refine st_q (v := .int .i64 ((i : Nat) : Int)) (x_move rfl) ?_
      refine st_q (v := .int .i64 (((i + 1) : Nat) : Int)) (x_addN rfl rfl (by omega)) ?_
      refine st_q (v := .int .i64 (((i + 1) : Nat) : Int)) (x_assign rfl) ?_
      refine st_nil ?_
      refine kn22 _ ((i + 1)) _ ⟨rfl, rfl, trivial⟩ ⟨rfl, ?_⟩ ?_
      ·
       try dsimp only
       exact ⟨by omega, fun j h => by
         by_cases he : j = i
         · subst he; unfold dig; omega
         · exact hI j (by omega)⟩
      ·
       (try dsimp only); omega
   ·
    refine exit ?_
    refine ke28 _ _ _ ?_
    refine ke24 _ _ _ ?_
    refine kb17 _ _ ?_
    refine kn6 _ _ ?_
    refine seqK fun Q57 kn58 kr59 ke60 => ?_
    refine region ?_
    refine st_q (v := .string s) (x_move rfl) ?_
    refine st_q (v := .int .i64 ((s.size : Nat) : Int)) (x_lenS rfl Tryd.underlying9 rfl) ?_
    refine st_q (v := .bool (decide (0 < s.size))) (x_gtrN rfl rfl) ?_
    refine st_q (v := .bool (decide (0 < s.size))) (x_assign rfl) ?_
    refine st_nil ?_
    refine kn58 _ _ ?_
    refine ret ?_
    refine leave1 (P := Tryd.prog) (fn := Tryd.f30) (t := 2) (v := .bool (decide (0 < s.size))) rfl rfl ?_
    exact ⟨by rw [digs_yes (fun j hj => by rw [bl_len] at hj; rw [bl_el hj]; exact hI j (by omega)), bl_len], rfl⟩

set_option maxHeartbeats 4000000 in
theorem whole31 (s : ByteArray) (w0 : World) (hd : ∀ i, i < s.size → dig (ch s i)) (hs : s.size ≤ 15) : Calls Tryd.prog 31 #[.string s] w0 fun e w' => e = .returned (.int .i64 ((whole (bl s) : Nat) : Int)) ∧ w0 = w' := by
  refine enter Tryd.func31 rfl 20 Tryd.ntmps31 rfl ?_
  refine seqK fun Q1 kn2 kr3 ke4 => ?_
  refine region ?_
  refine st_q (v := .int .i64 ((0 : Nat) : Int)) (x_assign rfl) ?_
  refine st_nil ?_
  refine kn2 _ _ ?_
  refine seqK fun Q5 kn6 kr7 ke8 => ?_
  refine region ?_
  refine st_q (v := .int .i64 ((0 : Nat) : Int)) (x_assign rfl) ?_
  refine st_nil ?_
  refine kn6 _ _ ?_
  refine seqK fun Q9 kn10 kr11 ke12 => ?_
  refine seqK fun Q13 kn14 kr15 ke16 => ?_
  refine region ?_
  refine st_q (v := .int .i64 ((0 : Nat) : Int)) (x_assign rfl) ?_
  refine st_nil ?_
  refine kn14 _ _ ?_
  refine blockK fun Q17 kn18 kr19 kx20 kb21 => ?_
  refine loopK (α := Nat × Nat) (fun x => [(0, .string s), (3, .int .i64 ((x.2 : Nat) : Int)), (4, .int .i64 ((x.1 : Nat) : Int))]) (fun x w22 => w0 = w22 ∧ x.1 ≤ s.size ∧ x.2 = whole ((bl s).take x.1) ∧ x.2 < 10 ^ x.1) (fun x => s.size - x.1) (0, 0) ⟨rfl, rfl, rfl, trivial⟩ ?_ ?_
  ·
   refine ⟨rfl, ?_⟩
   try dsimp only
   exact ⟨Nat.zero_le _, rfl, by decide⟩
  ·
   rintro τ23 ⟨i, n⟩ w24 ⟨rfl, ⟨hi, hn, hnb⟩⟩
   try dsimp only at hi hn hnb
   intro Q25 kn26 kr27 ke28
   refine seqK fun Q29 kn30 kr31 ke32 => ?_
   refine seqK fun Q33 kn34 kr35 ke36 => ?_
   refine region ?_
   refine st_q (v := .int .i64 ((i : Nat) : Int)) (x_move rfl) ?_
   refine st_q (v := .string s) (x_move rfl) ?_
   refine st_q (v := .int .i64 ((s.size : Nat) : Int)) (x_lenS rfl Tryd.underlying9 rfl) ?_
   refine st_q (v := .bool (decide (i < s.size))) (x_lssN rfl rfl) ?_
   refine st_nil ?_
   refine kn34 _ _ ?_
   refine cnd (p := i < s.size) rfl (fun h37 => ?_) (fun h37 => ?_)
   ·
    refine skip ?_
    refine kn30 _ _ ?_
    refine seqK fun Q38 kn39 kr40 ke41 => ?_
    refine blockK fun Q42 kn43 kr44 kx45 kb46 => ?_
    refine region ?_
    have h14 : 10 ^ i ≤ 100000000000000 := Nat.le_trans (Nat.pow_le_pow_right (by decide) (show i ≤ 14 by omega)) (by decide)
    have hdi := hd i (by omega)
    unfold dig at hdi
    refine st_q (v := .int .i64 ((n : Nat) : Int)) (x_move rfl) ?_
    refine st_q (v := .int .i64 (((10 * n) : Nat) : Int)) (x_mulN rfl rfl (by omega)) ?_
    refine st_q (v := .string s) (x_move rfl) ?_
    refine st_q (v := .int .i64 ((i : Nat) : Int)) (x_move rfl) ?_
    refine st_q (v := .int .u8 (((ch s i) : Nat) : Int)) (x_indexS Tryd.underlying9 rfl rfl (by omega)) ?_
    refine st_q (v := .int .u8 ((((ch s i) - 48) : Nat) : Int)) (x_subK rfl rfl (by omega) (by omega)) ?_
    refine st_q (v := .int .i64 ((((ch s i) - 48) : Nat) : Int)) (x_conv Tryd.underlying3 Tryd.underlying5 rfl (.inr ⟨by simp, by omega⟩)) ?_
    refine st_q (v := .int .i64 ((((10 * n) + ((ch s i) - 48)) : Nat) : Int)) (x_addN rfl rfl (by omega)) ?_
    refine st_q (v := .int .i64 ((((10 * n) + ((ch s i) - 48)) : Nat) : Int)) (x_assign rfl) ?_
    refine st_nil ?_
    refine kn43 _ _ ?_
    refine kn39 _ _ ?_
    refine region ?_
    refine st_q (v := .int .i64 ((i : Nat) : Int)) (x_move rfl) ?_
    refine st_q (v := .int .i64 (((i + 1) : Nat) : Int)) (x_addN rfl rfl (by omega)) ?_
    refine st_q (v := .int .i64 (((i + 1) : Nat) : Int)) (x_assign rfl) ?_
    refine st_nil ?_
    refine kn26 _ ((i + 1), ((10 * n) + ((ch s i) - 48))) _ ⟨rfl, rfl, rfl, trivial⟩ ⟨rfl, ?_⟩ ?_
    ·
     try dsimp only
     have h1 := hd i (by omega)
     unfold dig at h1
     refine ⟨by omega, ?_, ?_⟩
     · rw [take_succ_el (by rw [bl_len]; omega), whole_snoc, bl_el (by omega), ← hn]
     · rw [Nat.pow_succ]; omega
    ·
     (try dsimp only); omega
   ·
    refine exit ?_
    refine ke32 _ _ _ ?_
    refine ke28 _ _ _ ?_
    refine kb21 _ _ ?_
    refine kn10 _ _ ?_
    refine seqK fun Q47 kn48 kr49 ke50 => ?_
    refine region ?_
    refine st_q (v := .int .i64 ((n : Nat) : Int)) (x_move rfl) ?_
    refine st_q (v := .int .i64 ((n : Nat) : Int)) (x_assign rfl) ?_
    refine st_nil ?_
    refine kn48 _ _ ?_
    refine ret ?_
    refine leave1 (P := Tryd.prog) (fn := Tryd.f31) (t := 2) (v := .int .i64 ((n : Nat) : Int)) rfl rfl ?_
    have e0 : (bl s).take i = bl s := List.take_of_length_le (by rw [bl_len]; omega)
    exact ⟨by rw [hn, e0], rfl⟩

set_option maxHeartbeats 4000000 in
theorem pow29 (k : Nat) (w0 : World) (hk : k ≤ 15) (hT : Laid w0) : Calls Tryd.prog 29 #[.int .i64 ((k : Nat) : Int)] w0 fun e w' => e = .returned (.float .f64 (fromInt ((10 ^ k : Nat) : Int))) ∧ Ext w0 w' := by
  have hE0 : Below w0.heap.size w0 w0 := Below.refl _ _
  have hz0 := hE0.le
  refine enter Tryd.func29 rfl 42 Tryd.ntmps29 rfl ?_
  refine seqK fun Q1 kn2 kr3 ke4 => ?_
  refine region ?_
  refine st_q (v := .float .f64 0) (x_assign rfl) ?_
  refine st_nil ?_
  refine kn2 _ _ ?_
  refine seqK fun Q5 kn6 kr7 ke8 => ?_
  refine seqK fun Q9 kn10 kr11 ke12 => ?_
  refine region ?_
  refine st_q (v := .int .i64 ((k : Nat) : Int)) (x_move rfl) ?_
  refine st_q (v := .bool (decide (0 ≤ k))) (x_leqN rfl rfl) ?_
  refine st_if (p := 0 ≤ k) (x_move rfl) (fun h13 => ?_) (fun h13 => ?_)
  ·
   refine st_gq 2 5 rfl rfl (by decide) ?_
   refine st_q (v := .int .i64 ((k : Nat) : Int)) (x_move rfl) ?_
   refine st_gq 2 5 rfl rfl (by decide) ?_
   refine st_q (v := .bool (decide (k ≤ 308))) (x_leqN rfl rfl) ?_
   refine st_q (v := .bool (decide (k ≤ 308))) (x_pickT rfl rfl) ?_
   refine st_nil ?_
   refine kn10 _ _ ?_
   refine cnd (p := k ≤ 308) rfl (fun h14 => ?_) (fun h14 => ?_)
   ·
    refine seqK fun Q15 kn16 kr17 ke18 => ?_
    refine regionD1 [4, 9] [0, 1, 2, 3, 4, 5, 6, 7, 8, 9, 10, 11] (.one 0 (.one 1 (.one 2 (.one 3 (.one 4 (.one 5 (.one 6 (.one 7 (.one 8 (.one 9 (.one 10 (.one 11 .done)))))))))))) (by kernel_rfl) (by kernel_rfl) ?_
    intro w19 hx20 hs21
    have hE22 : Below w0.heap.size w0 w19 := hx20.e hE0 (Nat.le_refl _)
    have hz23 := hE22.le
    have hs24 := hx20.size
    have hS25 : Ext w19 w19 := Below.refl _ _
    refine d_q (v := .int .i64 ((k : Nat) : Int)) rfl rfl (fun _ => x_move rfl) ?_
    refine d_q (v := .int .u64 ((k : Nat) : Int)) rfl rfl (fun _ => x_conv Tryd.underlying102 Tryd.underlying3 rfl (.inr ⟨by simp, by omega⟩)) ?_
    refine d_q (v := .int .u64 (((k / 32) : Nat) : Int)) rfl rfl (fun _ => x_quoU rfl rfl (by decide) (by omega)) ?_
    refine d_q (v := .pointer (some ⟨1, 0 + ((k / 32)) * 1, none⟩)) rfl rfl (fun _ => x_indexArr (o := 0) Tryd.underlying101 T.sz22 rfl rfl (by omega)) ?_
    refine d_l (v := .float .f64 ((el pos10 ((k / 32))))) rfl rfl rfl (fun v27 hw26 => x_load1 T.na22 rfl ((((hT.below hE22).pos).elem enF_len (i := (k / 32)) (by simp only [pos10, List.length_cons, List.length_nil]; omega)).ext hw26)) ?_
    refine d_q (v := .int .i64 ((k : Nat) : Int)) rfl rfl (fun _ => x_move rfl) ?_
    refine d_q (v := .int .u64 ((k : Nat) : Int)) rfl rfl (fun _ => x_conv Tryd.underlying102 Tryd.underlying3 rfl (.inr ⟨by simp, by omega⟩)) ?_
    refine d_q (v := .int .u64 (((k % 32) : Nat) : Int)) rfl rfl (fun _ => x_remU rfl rfl (by decide)) ?_
    refine d_q (v := .pointer (some ⟨2, 0 + ((k % 32)) * 1, none⟩)) rfl rfl (fun _ => x_indexArr (o := 0) Tryd.underlying103 T.sz22 rfl rfl (by omega)) ?_
    refine d_l (v := .float .f64 ((el tab10 ((k % 32))))) rfl rfl rfl (fun v29 hw28 => x_load1 T.na22 rfl ((((hT.below hE22).tab).elem enF_len (i := (k % 32)) (by simp only [tab10, List.length_cons, List.length_nil]; omega)).ext hw28)) ?_
    refine d_q (v := .float .f64 ((fromInt ((10 ^ k : Nat) : Int)))) rfl rfl (fun _ => x_mulF rfl rfl (pow10_mul hk)) ?_
    refine d_q (v := .float .f64 ((fromInt ((10 ^ k : Nat) : Int)))) rfl rfl (fun _ => x_assign rfl) ?_
    refine d_done ?_
    refine kn16 _ _ ?_
    refine ret ?_
    refine kr7 _ _ ?_
    refine leave1 (P := Tryd.prog) (fn := Tryd.f29) (t := 2) (v := .float .f64 ((fromInt ((10 ^ k : Nat) : Int)))) rfl rfl ?_
    exact ⟨rfl, hE22⟩
   ·
    exact absurd h14 (by omega)
  ·
   exact absurd h13 (by omega)

set_option maxHeartbeats 4000000 in
theorem number10 (s : ByteArray) (w0 : World) (hs : s.size ≤ maxLen) : Calls Tryd.prog 10 #[.string s] w0 fun e w' => e = .returned (.tuple #[.float .f64 ((numL (bl s)).getD 0), .bool (numL (bl s)).isSome]) ∧ Ext w0 w' := by
  have hE0 : Below w0.heap.size w0 w0 := Below.refl _ _
  have hz0 := hE0.le
  simp only [maxLen] at hs
  refine enter Tryd.func10 rfl 88 Tryd.ntmps10 rfl ?_
  refine seqK fun Q1 kn2 kr3 ke4 => ?_
  refine region ?_
  refine st_q (v := .float .f64 0) (x_assign rfl) ?_
  refine st_q (v := .bool false) (x_assign rfl) ?_
  refine st_nil ?_
  refine kn2 _ _ ?_
  refine seqK fun Q5 kn6 kr7 ke8 => ?_
  refine region ?_
  refine st_q (v := .string s) (x_move rfl) ?_
  refine st_q (v := .string s) (x_assign rfl) ?_
  refine st_nil ?_
  refine kn6 _ _ ?_
  refine seqK fun Q9 kn10 kr11 ke12 => ?_
  refine region ?_
  refine st_q (v := .string s) (x_move rfl) ?_
  refine st_q (v := .int .i64 ((s.size : Nat) : Int)) (x_lenS rfl Tryd.underlying9 rfl) ?_
  refine st_q (v := .bool (decide (0 < s.size))) (x_gtrN rfl rfl) ?_
  refine st_if (p := 0 < s.size) (x_move rfl) (fun h13 => ?_) (fun h13 => ?_)
  ·
   refine st_gq 3 17 rfl rfl (by decide) ?_
   refine st_q (v := .string s) (x_move rfl) ?_
   refine st_gq 3 17 rfl rfl (by decide) ?_
   refine st_q (v := .int .u8 (((ch s 0) : Nat) : Int)) (x_indexS Tryd.underlying9 rfl rfl (by omega)) ?_
   refine st_gq 3 17 rfl rfl (by decide) ?_
   refine st_q (v := .bool (decide (((ch s 0)) = 45))) (x_eqlN rfl rfl) ?_
   refine st_q (v := .bool (decide (((ch s 0)) = 45))) (x_pickT rfl rfl) ?_
   refine st_q (v := .bool (decide (((ch s 0)) = 45))) (x_assign rfl) ?_
   refine st_nil ?_
   refine kn10 _ _ ?_
   refine seqK fun Q14 kn15 kr16 ke17 => ?_
   refine seqK fun Q18 kn19 kr20 ke21 => ?_
   refine region ?_
   refine st_q (v := .bool (decide (((ch s 0)) = 45))) (x_move rfl) ?_
   refine st_nil ?_
   refine kn19 _ _ ?_
   refine cnd (p := ((ch s 0)) = 45) rfl (fun h22 => ?_) (fun h22 => ?_)
   ·
    refine region ?_
    have hq1 := size_hi s 1
    refine st_q (v := .string s) (x_move rfl) ?_
    refine st_q (v := .string ((s.extract 1 s.size))) (x_sliceSLo Tryd.underlying9 rfl rfl (by omega)) ?_
    refine st_q (v := .string ((s.extract 1 s.size))) (x_assign rfl) ?_
    refine st_nil ?_
    refine kn15 _ _ ?_
    refine seqK fun Q23 kn24 kr25 ke26 => ?_
    refine region ?_
    refine st_q (v := .int .i64 (-1)) (x_assign rfl) ?_
    refine st_nil ?_
    refine kn24 _ _ ?_
    refine seqK fun Q27 kn28 kr29 ke30 => ?_
    refine seqK fun Q31 kn32 kr33 ke34 => ?_
    refine region ?_
    refine st_q (v := .int .i64 ((0 : Nat) : Int)) (x_assign rfl) ?_
    refine st_nil ?_
    refine kn32 _ _ ?_
    refine blockK fun Q35 kn36 kr37 kx38 kb39 => ?_
    refine loopK (α := Nat × Int) (fun x => [(4, .string ((s.extract 1 s.size))), (5, .bool (decide (((ch s 0)) = 45))), (6, .int .i64 x.2), (7, .int .i64 ((x.1 : Nat) : Int))]) (fun x w40 => w0 = w40 ∧ x.1 ≤ ((s.extract 1 s.size)).size ∧ ((x.2 = -1 ∧ ∀ j, j < x.1 → ch ((s.extract 1 s.size)) j ≠ 46) ∨ (0 ≤ x.2 ∧ x.2.toNat < x.1 ∧ ch ((s.extract 1 s.size)) x.2.toNat = 46 ∧ ∀ j, j < x.2.toNat → ch ((s.extract 1 s.size)) j ≠ 46))) (fun x => ((s.extract 1 s.size)).size - x.1) (0, (-1)) ⟨rfl, rfl, rfl, rfl, trivial⟩ ?_ ?_
    ·
     refine ⟨rfl, ?_⟩
     try dsimp only
     exact ⟨Nat.zero_le _, .inl ⟨rfl, fun j h => by omega⟩⟩
    ·
     rintro τ41 ⟨i, d⟩ w42 ⟨rfl, ⟨hi, hI⟩⟩
     try dsimp only at hi hI
     intro Q43 kn44 kr45 ke46
     refine seqK fun Q47 kn48 kr49 ke50 => ?_
     refine seqK fun Q51 kn52 kr53 ke54 => ?_
     refine region ?_
     refine st_q (v := .int .i64 ((i : Nat) : Int)) (x_move rfl) ?_
     refine st_q (v := .string ((s.extract 1 s.size))) (x_move rfl) ?_
     refine st_q (v := .int .i64 ((((s.extract 1 s.size)).size : Nat) : Int)) (x_lenS rfl Tryd.underlying9 rfl) ?_
     refine st_q (v := .bool (decide (i < (((s.extract 1 s.size)).size)))) (x_lssN rfl rfl) ?_
     refine st_nil ?_
     refine kn52 _ _ ?_
     refine cnd (p := i < (((s.extract 1 s.size)).size)) rfl (fun h55 => ?_) (fun h55 => ?_)
     ·
      refine skip ?_
      refine kn48 _ _ ?_
      refine seqK fun Q56 kn57 kr58 ke59 => ?_
      refine blockK fun Q60 kn61 kr62 kx63 kb64 => ?_
      refine seqK fun Q65 kn66 kr67 ke68 => ?_
      refine region ?_
      refine st_q (v := .string ((s.extract 1 s.size))) (x_move rfl) ?_
      refine st_q (v := .int .i64 ((i : Nat) : Int)) (x_move rfl) ?_
      refine st_q (v := .int .u8 (((ch ((s.extract 1 s.size)) i) : Nat) : Int)) (x_indexS Tryd.underlying9 rfl rfl (by omega)) ?_
      refine st_q (v := .bool (decide (((ch ((s.extract 1 s.size)) i)) = 46))) (x_eqlN rfl rfl) ?_
      refine st_if (p := ((ch ((s.extract 1 s.size)) i)) = 46) (x_move rfl) (fun h69 => ?_) (fun h69 => ?_)
      ·
       refine st_gq 4 35 rfl rfl (by decide) ?_
       refine st_q (v := .int .i64 d) (x_move rfl) ?_
       refine st_gq 4 35 rfl rfl (by decide) ?_
       refine st_q (v := .bool (decide (d < 0))) (x_lss rfl rfl) ?_
       refine st_q (v := .bool (decide (d < 0))) (x_pickT rfl rfl) ?_
       refine st_nil ?_
       refine kn66 _ _ ?_
       refine cnd (p := d < 0) rfl (fun h70 => ?_) (fun h70 => ?_)
       ·
        refine region ?_
        refine st_q (v := .int .i64 ((i : Nat) : Int)) (x_move rfl) ?_
        refine st_q (v := .int .i64 ((i : Nat) : Int)) (x_assign rfl) ?_
        refine st_nil ?_
        refine kn61 _ _ ?_
        refine kn57 _ _ ?_
        refine region ?_
        refine st_q (v := .int .i64 ((i : Nat) : Int)) (x_move rfl) ?_
        refine st_q (v := .int .i64 (((i + 1) : Nat) : Int)) (x_addN rfl rfl (by omega)) ?_
        refine st_q (v := .int .i64 (((i + 1) : Nat) : Int)) (x_assign rfl) ?_
        refine st_nil ?_
        refine kn44 _ ((i + 1), ((i : Nat) : Int)) _ ⟨rfl, rfl, rfl, rfl, trivial⟩ ⟨rfl, ?_⟩ ?_
        ·
         try dsimp only
         refine ⟨by omega, .inr ⟨by omega, by omega, by assumption, fun j hj => ?_⟩⟩
         rcases hI with ⟨_, h2⟩ | ⟨h1, _⟩
         · exact h2 j (by omega)
         · omega
        ·
         (try dsimp only); omega
       ·
        refine skip ?_
        refine kn61 _ _ ?_
        refine kn57 _ _ ?_
        refine region ?_
        refine st_q (v := .int .i64 ((i : Nat) : Int)) (x_move rfl) ?_
        refine st_q (v := .int .i64 (((i + 1) : Nat) : Int)) (x_addN rfl rfl (by omega)) ?_
        refine st_q (v := .int .i64 (((i + 1) : Nat) : Int)) (x_assign rfl) ?_
        refine st_nil ?_
        refine kn44 _ ((i + 1), d) _ ⟨rfl, rfl, rfl, rfl, trivial⟩ ⟨rfl, ?_⟩ ?_
        ·
         try dsimp only
         refine ⟨by omega, ?_⟩
         rcases hI with ⟨h1, h2⟩ | ⟨h1, h2, h3, h4⟩
         · refine .inl ⟨h1, fun j hj => ?_⟩
           by_cases e : j = i
           · subst e; first | assumption | (exfalso; omega)
           · exact h2 j (by omega)
         · exact .inr ⟨h1, by omega, h3, h4⟩
        ·
         (try dsimp only); omega
      ·
       refine st_gn 4 35 rfl rfl (by decide) rfl ?_
       refine st_gn 4 35 rfl rfl (by decide) rfl ?_
       refine st_q (v := .bool false) (x_pickF rfl rfl) ?_
       refine st_nil ?_
       refine kn66 _ _ ?_
       refine cndF rfl ?_
       refine skip ?_
       refine kn61 _ _ ?_
       refine kn57 _ _ ?_
       refine region ?_
       refine st_q (v := .int .i64 ((i : Nat) : Int)) (x_move rfl) ?_
       refine st_q (v := .int .i64 (((i + 1) : Nat) : Int)) (x_addN rfl rfl (by omega)) ?_
       refine st_q (v := .int .i64 (((i + 1) : Nat) : Int)) (x_assign rfl) ?_
       refine st_nil ?_
       refine kn44 _ ((i + 1), d) _ ⟨rfl, rfl, rfl, rfl, trivial⟩ ⟨rfl, ?_⟩ ?_
       ·
        try dsimp only
        refine ⟨by omega, ?_⟩
        rcases hI with ⟨h1, h2⟩ | ⟨h1, h2, h3, h4⟩
        · refine .inl ⟨h1, fun j hj => ?_⟩
          by_cases e : j = i
          · subst e; first | assumption | (exfalso; omega)
          · exact h2 j (by omega)
        · exact .inr ⟨h1, by omega, h3, h4⟩
       ·
        (try dsimp only); omega
     ·
      refine exit ?_
      refine ke50 _ _ _ ?_
      refine ke46 _ _ _ ?_
      refine kb39 _ _ ?_
      refine kn28 _ _ ?_
      refine seqK fun Q71 kn72 kr73 ke74 => ?_
      refine region ?_
      refine st_q (v := .string ((s.extract 1 s.size))) (x_move rfl) ?_
      refine st_q (v := .string ((s.extract 1 s.size))) (x_assign rfl) ?_
      refine st_q (v := .string ((ByteArray.mk #[]))) (x_assign rfl) ?_
      refine st_nil ?_
      refine kn72 _ _ ?_
      refine seqK fun Q75 kn76 kr77 ke78 => ?_
      refine seqK fun Q79 kn80 kr81 ke82 => ?_
      refine region ?_
      refine st_q (v := .int .i64 d) (x_move rfl) ?_
      refine st_q (v := .bool (decide (0 ≤ d))) (x_geq rfl rfl) ?_
      refine st_nil ?_
      refine kn80 _ _ ?_
      refine cnd (p := 0 ≤ d) rfl (fun h83 => ?_) (fun h83 => ?_)
      ·
       refine seqK fun Q84 kn85 kr86 ke87 => ?_
       refine regionD1 [] [0, 1, 2, 3, 4, 5, 6, 7, 8] (.one 0 (.one 1 (.one 2 (.one 3 (.one 4 (.one 5 (.one 6 (.one 7 (.one 8 .done))))))))) (by kernel_rfl) (by kernel_rfl) ?_
       intro w88 hx89 hs90
       have hE91 : Below w0.heap.size w0 w88 := hx89.e hE0 (Nat.le_refl _)
       have hz92 := hE91.le
       have hs93 := hx89.size
       have hS94 : Ext w88 w88 := Below.refl _ _
       obtain ⟨k, rfl⟩ : ∃ k : Nat, d = ((k : Nat) : Int) := ⟨d.toNat, by omega⟩
       obtain ⟨hk, h46, hno⟩ : k < ((s.extract 1 s.size)).size ∧ ch ((s.extract 1 s.size)) k = 46 ∧ ∀ j, j < k → ch ((s.extract 1 s.size)) j ≠ 46 := by rcases hI with ⟨h1, h2⟩ | ⟨h1, h2, h3, h4⟩; omega; exact ⟨by omega, h3, h4⟩
       have hc := Cut.at hk h46 hno
       have hl1 := size_lo (s := ((s.extract 1 s.size))) (k := k) (by omega)
       have hl2 := size_hi ((s.extract 1 s.size)) (k + 1)
       refine d_q (v := .string ((s.extract 1 s.size))) rfl rfl (fun _ => x_move rfl) ?_
       refine d_q (v := .int .i64 ((k : Nat) : Int)) rfl rfl (fun _ => x_move rfl) ?_
       refine d_q (v := .string ((((s.extract 1 s.size)).extract 0 k))) rfl rfl (fun _ => x_sliceSHi Tryd.underlying9 rfl rfl (by omega)) ?_
       refine d_q (v := .string ((s.extract 1 s.size))) rfl rfl (fun _ => x_move rfl) ?_
       refine d_q (v := .int .i64 ((k : Nat) : Int)) rfl rfl (fun _ => x_move rfl) ?_
       refine d_q (v := .int .i64 (((k + 1) : Nat) : Int)) rfl rfl (fun _ => x_addN rfl rfl (by omega)) ?_
       refine d_q (v := .string ((((s.extract 1 s.size)).extract ((k + 1)) ((s.extract 1 s.size)).size))) rfl rfl (fun _ => x_sliceSLo Tryd.underlying9 rfl rfl (by omega)) ?_
       refine d_q (v := .string ((((s.extract 1 s.size)).extract 0 k))) rfl rfl (fun _ => x_assign rfl) ?_
       refine d_q (v := .string ((((s.extract 1 s.size)).extract ((k + 1)) ((s.extract 1 s.size)).size))) rfl rfl (fun _ => x_assign rfl) ?_
       refine d_done ?_
       refine kn85 _ _ ?_
       refine seqK fun Q95 kn96 kr97 ke98 => ?_
       refine region ?_
       refine st_q (v := .string ((((s.extract 1 s.size)).extract ((k + 1)) ((s.extract 1 s.size)).size))) (x_move rfl) ?_
       refine st_c (t_call [.string ((((s.extract 1 s.size)).extract ((k + 1)) ((s.extract 1 s.size)).size))] T.cf30 rfl rfl) (digits30 ((((s.extract 1 s.size)).extract ((k + 1)) ((s.extract 1 s.size)).size)) _ (by simp only [maxLen]; omega)) ?_
       rintro _ _ ⟨rfl, rfl⟩
       refine ⟨_, rfl, ?_⟩
       refine st_q (v := .bool (decide (¬ ((digs (bl ((((s.extract 1 s.size)).extract ((k + 1)) ((s.extract 1 s.size)).size)))) = true)))) (x_notBB rfl) ?_
       refine st_nil ?_
       refine kn96 _ _ ?_
       refine cnd (p := ¬ ((digs (bl ((((s.extract 1 s.size)).extract ((k + 1)) ((s.extract 1 s.size)).size)))) = true)) rfl (fun h99 => ?_) (fun h99 => ?_)
       ·
        refine seqK fun Q100 kn101 kr102 ke103 => ?_
        refine region ?_
        refine st_q (v := .float .f64 0) (x_assign rfl) ?_
        refine st_q (v := .bool false) (x_assign rfl) ?_
        refine st_nil ?_
        refine kn101 _ _ ?_
        refine ret ?_
        refine kr77 _ _ ?_
        refine leave2 (P := Tryd.prog) (fn := Tryd.f10) (t := 2) (u := 3) (v := .float .f64 0) (v' := .bool false) rfl rfl rfl ?_
        have e0 := numL_minus (s := s) (by omega) (by omega)
        first | rw [Cut.bad1 hk h46 hno (by assumption)] at e0 | rw [Cut.bad2 hc (by assumption)] at e0 | rw [Cut.bad3 hc (by assumption)] at e0
        exact ⟨by rw [e0]; rfl, hE91⟩
       ·
        refine skip ?_
        refine kn76 _ _ ?_
        refine seqK fun Q104 kn105 kr106 ke107 => ?_
        refine seqK fun Q108 kn109 kr110 ke111 => ?_
        refine region ?_
        refine st_q (v := .string ((((s.extract 1 s.size)).extract 0 k))) (x_move rfl) ?_
        refine st_c (t_call [.string ((((s.extract 1 s.size)).extract 0 k))] T.cf30 rfl rfl) (digits30 ((((s.extract 1 s.size)).extract 0 k)) _ (by simp only [maxLen]; omega)) ?_
        rintro _ _ ⟨rfl, rfl⟩
        refine ⟨_, rfl, ?_⟩
        refine st_q (v := .bool (decide (¬ ((digs (bl ((((s.extract 1 s.size)).extract 0 k)))) = true)))) (x_notBB rfl) ?_
        refine st_if (p := ¬ ((digs (bl ((((s.extract 1 s.size)).extract 0 k)))) = true)) (x_move rfl) (fun h112 => ?_) (fun h112 => ?_)
        ·
         refine st_gn 3 56 rfl rfl (by decide) rfl ?_
         refine st_gn 3 56 rfl rfl (by decide) rfl ?_
         refine st_gn 3 56 rfl rfl (by decide) rfl ?_
         refine st_gn 3 56 rfl rfl (by decide) rfl ?_
         refine st_gn 3 56 rfl rfl (by decide) rfl ?_
         refine st_gn 3 56 rfl rfl (by decide) rfl ?_
         refine st_q (v := .bool true) (x_pickT rfl rfl) ?_
         refine st_nil ?_
         refine kn109 _ _ ?_
         refine cndT rfl ?_
         refine seqK fun Q113 kn114 kr115 ke116 => ?_
         refine region ?_
         refine st_q (v := .float .f64 0) (x_assign rfl) ?_
         refine st_q (v := .bool false) (x_assign rfl) ?_
         refine st_nil ?_
         refine kn114 _ _ ?_
         refine ret ?_
         refine kr106 _ _ ?_
         refine leave2 (P := Tryd.prog) (fn := Tryd.f10) (t := 2) (u := 3) (v := .float .f64 0) (v' := .bool false) rfl rfl rfl ?_
         have e0 := numL_minus (s := s) (by omega) (by omega)
         first | rw [Cut.bad1 hk h46 hno (by assumption)] at e0 | rw [Cut.bad2 hc (by assumption)] at e0 | rw [Cut.bad3 hc (by assumption)] at e0
         exact ⟨by rw [e0]; rfl, hE91⟩
        ·
         refine st_gq 3 56 rfl rfl (by decide) ?_
         refine st_q (v := .string ((((s.extract 1 s.size)).extract 0 k))) (x_move rfl) ?_
         refine st_gq 3 56 rfl rfl (by decide) ?_
         refine st_q (v := .int .i64 ((((((s.extract 1 s.size)).extract 0 k)).size : Nat) : Int)) (x_lenS rfl Tryd.underlying9 rfl) ?_
         refine st_gq 3 56 rfl rfl (by decide) ?_
         refine st_q (v := .string ((((s.extract 1 s.size)).extract ((k + 1)) ((s.extract 1 s.size)).size))) (x_move rfl) ?_
         refine st_gq 3 56 rfl rfl (by decide) ?_
         refine st_q (v := .int .i64 ((((((s.extract 1 s.size)).extract ((k + 1)) ((s.extract 1 s.size)).size)).size : Nat) : Int)) (x_lenS rfl Tryd.underlying9 rfl) ?_
         refine st_gq 3 56 rfl rfl (by decide) ?_
         refine st_q (v := .int .i64 (((((((s.extract 1 s.size)).extract 0 k)).size + ((((s.extract 1 s.size)).extract ((k + 1)) ((s.extract 1 s.size)).size)).size) : Nat) : Int)) (x_addN rfl rfl (by omega)) ?_
         refine st_gq 3 56 rfl rfl (by decide) ?_
         refine st_q (v := .bool (decide (15 < ((((((s.extract 1 s.size)).extract 0 k)).size + ((((s.extract 1 s.size)).extract ((k + 1)) ((s.extract 1 s.size)).size)).size))))) (x_gtrN rfl rfl) ?_
         refine st_q (v := .bool (decide (15 < ((((((s.extract 1 s.size)).extract 0 k)).size + ((((s.extract 1 s.size)).extract ((k + 1)) ((s.extract 1 s.size)).size)).size))))) (x_pickF rfl rfl) ?_
         refine st_nil ?_
         refine kn109 _ _ ?_
         refine cnd (p := 15 < ((((((s.extract 1 s.size)).extract 0 k)).size + ((((s.extract 1 s.size)).extract ((k + 1)) ((s.extract 1 s.size)).size)).size))) rfl (fun h117 => ?_) (fun h117 => ?_)
         ·
          refine seqK fun Q118 kn119 kr120 ke121 => ?_
          refine region ?_
          refine st_q (v := .float .f64 0) (x_assign rfl) ?_
          refine st_q (v := .bool false) (x_assign rfl) ?_
          refine st_nil ?_
          refine kn119 _ _ ?_
          refine ret ?_
          refine kr106 _ _ ?_
          refine leave2 (P := Tryd.prog) (fn := Tryd.f10) (t := 2) (u := 3) (v := .float .f64 0) (v' := .bool false) rfl rfl rfl ?_
          have e0 := numL_minus (s := s) (by omega) (by omega)
          first | rw [Cut.bad1 hk h46 hno (by assumption)] at e0 | rw [Cut.bad2 hc (by assumption)] at e0 | rw [Cut.bad3 hc (by assumption)] at e0
          exact ⟨by rw [e0]; rfl, hE91⟩
         ·
          refine skip ?_
          refine kn105 _ _ ?_
          refine seqK fun Q122 kn123 kr124 ke125 => ?_
          refine region ?_
          have hdf1 : digs (bl ((((s.extract 1 s.size)).extract 0 k))) = true := Decidable.of_not_not (by assumption)
          have hdf := digs_dig hdf1
          have hdb1 : digs (bl ((((s.extract 1 s.size)).extract ((k + 1)) ((s.extract 1 s.size)).size))) = true := Decidable.of_not_not (by assumption)
          have hdb := digs_dig hdb1
          have hsz := size_app ((((s.extract 1 s.size)).extract 0 k)) ((((s.extract 1 s.size)).extract ((k + 1)) ((s.extract 1 s.size)).size))
          have hR := Cut.good hc hdf1 (.inr hdb1) (by assumption)
          refine st_q (v := .string ((((s.extract 1 s.size)).extract 0 k))) (x_move rfl) ?_
          refine st_q (v := .string ((((s.extract 1 s.size)).extract ((k + 1)) ((s.extract 1 s.size)).size))) (x_move rfl) ?_
          refine st_q (v := .string ((((((s.extract 1 s.size)).extract 0 k)) ++ ((((s.extract 1 s.size)).extract ((k + 1)) ((s.extract 1 s.size)).size))))) (x_addS rfl rfl (by omega)) ?_
          refine st_c (t_call [.string ((((((s.extract 1 s.size)).extract 0 k)) ++ ((((s.extract 1 s.size)).extract ((k + 1)) ((s.extract 1 s.size)).size))))] T.cf31 rfl rfl) (whole31 ((((((s.extract 1 s.size)).extract 0 k)) ++ ((((s.extract 1 s.size)).extract ((k + 1)) ((s.extract 1 s.size)).size)))) _ (dig_app hdf.2 hdb.2) (by omega)) ?_
          rintro _ _ ⟨rfl, rfl⟩
          refine ⟨_, rfl, ?_⟩
          refine st_q (v := .float .f64 ((fromInt ((((whole (bl ((((((s.extract 1 s.size)).extract 0 k)) ++ ((((s.extract 1 s.size)).extract ((k + 1)) ((s.extract 1 s.size)).size)))))) : Nat) : Int))))) (x_convF Tryd.underlying22 Tryd.underlying3 rfl) ?_
          refine st_q (v := .float .f64 ((fromInt ((((whole (bl ((((((s.extract 1 s.size)).extract 0 k)) ++ ((((s.extract 1 s.size)).extract ((k + 1)) ((s.extract 1 s.size)).size)))))) : Nat) : Int))))) (x_assign rfl) ?_
          refine st_nil ?_
          refine kn123 _ _ ?_
          refine seqK fun Q126 kn127 kr128 ke129 => ?_
          refine seqK fun Q130 kn131 kr132 ke133 => ?_
          refine region ?_
          refine st_q (v := .string ((((s.extract 1 s.size)).extract ((k + 1)) ((s.extract 1 s.size)).size))) (x_move rfl) ?_
          refine st_q (v := .int .i64 ((((((s.extract 1 s.size)).extract ((k + 1)) ((s.extract 1 s.size)).size)).size : Nat) : Int)) (x_lenS rfl Tryd.underlying9 rfl) ?_
          refine st_q (v := .bool (decide (0 < (((((s.extract 1 s.size)).extract ((k + 1)) ((s.extract 1 s.size)).size)).size)))) (x_gtrN rfl rfl) ?_
          refine st_nil ?_
          refine kn131 _ _ ?_
          refine cnd (p := 0 < (((((s.extract 1 s.size)).extract ((k + 1)) ((s.extract 1 s.size)).size)).size)) rfl (fun h134 => ?_) (fun h134 => ?_)
          ·
           refine seqK fun Q135 kn136 kr137 ke138 => ?_
           refine region ?_
           refine st_q (v := .int .i64 ((1 : Nat) : Int)) (x_assign rfl) ?_
           refine st_nil ?_
           refine kn136 _ _ ?_
           refine seqK fun Q139 kn140 kr141 ke142 => ?_
           refine seqK fun Q143 kn144 kr145 ke146 => ?_
           refine region ?_
           refine st_q (v := .int .i64 ((0 : Nat) : Int)) (x_assign rfl) ?_
           refine st_nil ?_
           refine kn144 _ _ ?_
           refine blockK fun Q147 kn148 kr149 kx150 kb151 => ?_
           refine loopK (α := Nat × Nat) (fun x => [(5, .bool (decide (((ch s 0)) = 45))), (9, .string ((((s.extract 1 s.size)).extract ((k + 1)) ((s.extract 1 s.size)).size))), (10, .float .f64 ((fromInt ((((whole (bl ((((((s.extract 1 s.size)).extract 0 k)) ++ ((((s.extract 1 s.size)).extract ((k + 1)) ((s.extract 1 s.size)).size)))))) : Nat) : Int))))), (11, .int .i64 ((x.1 : Nat) : Int)), (12, .int .i64 ((x.2 : Nat) : Int))]) (fun x w152 => w88 = w152 ∧ x.2 ≤ ((((s.extract 1 s.size)).extract ((k + 1)) ((s.extract 1 s.size)).size)).size ∧ x.1 = 10 ^ x.2) (fun x => ((((s.extract 1 s.size)).extract ((k + 1)) ((s.extract 1 s.size)).size)).size - x.2) (1, 0) ⟨rfl, rfl, rfl, rfl, rfl, trivial⟩ ?_ ?_
           ·
            refine ⟨rfl, ?_⟩
            try dsimp only
            exact ⟨Nat.zero_le _, rfl⟩
           ·
            rintro τ153 ⟨ten, i⟩ w154 ⟨rfl, ⟨hi, hten⟩⟩
            try dsimp only at hi hten
            intro Q155 kn156 kr157 ke158
            refine seqK fun Q159 kn160 kr161 ke162 => ?_
            refine seqK fun Q163 kn164 kr165 ke166 => ?_
            refine region ?_
            refine st_q (v := .int .i64 ((i : Nat) : Int)) (x_move rfl) ?_
            refine st_q (v := .string ((((s.extract 1 s.size)).extract ((k + 1)) ((s.extract 1 s.size)).size))) (x_move rfl) ?_
            refine st_q (v := .int .i64 ((((((s.extract 1 s.size)).extract ((k + 1)) ((s.extract 1 s.size)).size)).size : Nat) : Int)) (x_lenS rfl Tryd.underlying9 rfl) ?_
            refine st_q (v := .bool (decide (i < (((((s.extract 1 s.size)).extract ((k + 1)) ((s.extract 1 s.size)).size)).size)))) (x_lssN rfl rfl) ?_
            refine st_nil ?_
            refine kn164 _ _ ?_
            refine cnd (p := i < (((((s.extract 1 s.size)).extract ((k + 1)) ((s.extract 1 s.size)).size)).size)) rfl (fun h167 => ?_) (fun h167 => ?_)
            ·
             refine skip ?_
             refine kn160 _ _ ?_
             refine seqK fun Q168 kn169 kr170 ke171 => ?_
             refine blockK fun Q172 kn173 kr174 kx175 kb176 => ?_
             refine region ?_
             have h14 : 10 ^ i ≤ 100000000000000 := Nat.le_trans (Nat.pow_le_pow_right (by decide) (show i ≤ 14 by omega)) (by decide)
             refine st_q (v := .int .i64 ((ten : Nat) : Int)) (x_move rfl) ?_
             refine st_q (v := .int .i64 (((10 * ten) : Nat) : Int)) (x_mulN rfl rfl (by omega)) ?_
             refine st_q (v := .int .i64 (((10 * ten) : Nat) : Int)) (x_assign rfl) ?_
             refine st_nil ?_
             refine kn173 _ _ ?_
             refine kn169 _ _ ?_
             refine region ?_
             refine st_q (v := .int .i64 ((i : Nat) : Int)) (x_move rfl) ?_
             refine st_q (v := .int .i64 (((i + 1) : Nat) : Int)) (x_addN rfl rfl (by omega)) ?_
             refine st_q (v := .int .i64 (((i + 1) : Nat) : Int)) (x_assign rfl) ?_
             refine st_nil ?_
             refine kn156 _ ((10 * ten), (i + 1)) _ ⟨rfl, rfl, rfl, rfl, rfl, trivial⟩ ⟨rfl, ?_⟩ ?_
             ·
              try dsimp only
              exact ⟨by omega, by rw [hten, Nat.pow_succ, Nat.mul_comm]⟩
             ·
              (try dsimp only); omega
            ·
             refine exit ?_
             refine ke162 _ _ _ ?_
             refine ke158 _ _ _ ?_
             refine kb151 _ _ ?_
             refine kn140 _ _ ?_
             refine region ?_
             obtain rfl : i = ((((s.extract 1 s.size)).extract ((k + 1)) ((s.extract 1 s.size)).size)).size := by omega
             refine st_q (v := .float .f64 ((fromInt ((((whole (bl ((((((s.extract 1 s.size)).extract 0 k)) ++ ((((s.extract 1 s.size)).extract ((k + 1)) ((s.extract 1 s.size)).size)))))) : Nat) : Int))))) (x_move rfl) ?_
             refine st_q (v := .int .i64 ((ten : Nat) : Int)) (x_move rfl) ?_
             refine st_q (v := .float .f64 ((fromInt (((ten : Nat) : Int))))) (x_convF Tryd.underlying22 Tryd.underlying3 rfl) ?_
             refine st_q (v := .float .f64 ((numBits (whole (bl (((((s.extract 1 s.size)).extract 0 k)) ++ ((((s.extract 1 s.size)).extract ((k + 1)) ((s.extract 1 s.size)).size))))) ((((s.extract 1 s.size)).extract ((k + 1)) ((s.extract 1 s.size)).size)).size))) (x_quoF rfl rfl (by rw [hten]; exact numBits_pos (by omega) (by omega))) ?_
             refine st_q (v := .float .f64 ((numBits (whole (bl (((((s.extract 1 s.size)).extract 0 k)) ++ ((((s.extract 1 s.size)).extract ((k + 1)) ((s.extract 1 s.size)).size))))) ((((s.extract 1 s.size)).extract ((k + 1)) ((s.extract 1 s.size)).size)).size))) (x_assign rfl) ?_
             refine st_nil ?_
             refine kn127 _ _ ?_
             refine seqK fun Q177 kn178 kr179 ke180 => ?_
             refine seqK fun Q181 kn182 kr183 ke184 => ?_
             refine region ?_
             refine st_q (v := .bool (decide (((ch s 0)) = 45))) (x_move rfl) ?_
             refine st_nil ?_
             refine kn182 _ _ ?_
             refine cnd (p := ((ch s 0)) = 45) rfl (fun h185 => ?_) (fun h185 => ?_)
             ·
              refine region ?_
              refine st_q (v := .float .f64 ((numBits (whole (bl (((((s.extract 1 s.size)).extract 0 k)) ++ ((((s.extract 1 s.size)).extract ((k + 1)) ((s.extract 1 s.size)).size))))) ((((s.extract 1 s.size)).extract ((k + 1)) ((s.extract 1 s.size)).size)).size))) (x_move rfl) ?_
              refine st_q (v := .float .f64 ((negF ((numBits (whole (bl (((((s.extract 1 s.size)).extract 0 k)) ++ ((((s.extract 1 s.size)).extract ((k + 1)) ((s.extract 1 s.size)).size))))) ((((s.extract 1 s.size)).extract ((k + 1)) ((s.extract 1 s.size)).size)).size))))) (x_negF rfl) ?_
              refine st_q (v := .float .f64 ((negF ((numBits (whole (bl (((((s.extract 1 s.size)).extract 0 k)) ++ ((((s.extract 1 s.size)).extract ((k + 1)) ((s.extract 1 s.size)).size))))) ((((s.extract 1 s.size)).extract ((k + 1)) ((s.extract 1 s.size)).size)).size))))) (x_assign rfl) ?_
              refine st_nil ?_
              refine kn178 _ _ ?_
              refine seqK fun Q186 kn187 kr188 ke189 => ?_
              refine region ?_
              refine st_q (v := .float .f64 ((negF ((numBits (whole (bl (((((s.extract 1 s.size)).extract 0 k)) ++ ((((s.extract 1 s.size)).extract ((k + 1)) ((s.extract 1 s.size)).size))))) ((((s.extract 1 s.size)).extract ((k + 1)) ((s.extract 1 s.size)).size)).size))))) (x_move rfl) ?_
              refine st_q (v := .float .f64 ((negF ((numBits (whole (bl (((((s.extract 1 s.size)).extract 0 k)) ++ ((((s.extract 1 s.size)).extract ((k + 1)) ((s.extract 1 s.size)).size))))) ((((s.extract 1 s.size)).extract ((k + 1)) ((s.extract 1 s.size)).size)).size))))) (x_assign rfl) ?_
              refine st_q (v := .bool true) (x_assign rfl) ?_
              refine st_nil ?_
              refine kn187 _ _ ?_
              refine ret ?_
              refine leave2 (P := Tryd.prog) (fn := Tryd.f10) (t := 2) (u := 3) (v := .float .f64 ((negF ((numBits (whole (bl (((((s.extract 1 s.size)).extract 0 k)) ++ ((((s.extract 1 s.size)).extract ((k + 1)) ((s.extract 1 s.size)).size))))) ((((s.extract 1 s.size)).extract ((k + 1)) ((s.extract 1 s.size)).size)).size))))) (v' := .bool true) rfl rfl rfl ?_
              have e0 := numL_minus (s := s) (by omega) (by omega)
              rw [hR] at e0
              exact ⟨by rw [e0]; rfl, hE91⟩
             ·
              exact absurd h185 (by omega)
          ·
           refine skip ?_
           refine kn127 _ _ ?_
           refine seqK fun Q190 kn191 kr192 ke193 => ?_
           refine seqK fun Q194 kn195 kr196 ke197 => ?_
           refine region ?_
           refine st_q (v := .bool (decide (((ch s 0)) = 45))) (x_move rfl) ?_
           refine st_nil ?_
           refine kn195 _ _ ?_
           refine cnd (p := ((ch s 0)) = 45) rfl (fun h198 => ?_) (fun h198 => ?_)
           ·
            refine region ?_
            refine st_q (v := .float .f64 ((fromInt ((((whole (bl ((((((s.extract 1 s.size)).extract 0 k)) ++ ((((s.extract 1 s.size)).extract ((k + 1)) ((s.extract 1 s.size)).size)))))) : Nat) : Int))))) (x_move rfl) ?_
            refine st_q (v := .float .f64 ((negF ((fromInt ((((whole (bl ((((((s.extract 1 s.size)).extract 0 k)) ++ ((((s.extract 1 s.size)).extract ((k + 1)) ((s.extract 1 s.size)).size)))))) : Nat) : Int))))))) (x_negF rfl) ?_
            refine st_q (v := .float .f64 ((negF ((fromInt ((((whole (bl ((((((s.extract 1 s.size)).extract 0 k)) ++ ((((s.extract 1 s.size)).extract ((k + 1)) ((s.extract 1 s.size)).size)))))) : Nat) : Int))))))) (x_assign rfl) ?_
            refine st_nil ?_
            refine kn191 _ _ ?_
            refine seqK fun Q199 kn200 kr201 ke202 => ?_
            refine region ?_
            refine st_q (v := .float .f64 ((negF ((fromInt ((((whole (bl ((((((s.extract 1 s.size)).extract 0 k)) ++ ((((s.extract 1 s.size)).extract ((k + 1)) ((s.extract 1 s.size)).size)))))) : Nat) : Int))))))) (x_move rfl) ?_
            refine st_q (v := .float .f64 ((negF ((fromInt ((((whole (bl ((((((s.extract 1 s.size)).extract 0 k)) ++ ((((s.extract 1 s.size)).extract ((k + 1)) ((s.extract 1 s.size)).size)))))) : Nat) : Int))))))) (x_assign rfl) ?_
            refine st_q (v := .bool true) (x_assign rfl) ?_
            refine st_nil ?_
            refine kn200 _ _ ?_
            refine ret ?_
            refine leave2 (P := Tryd.prog) (fn := Tryd.f10) (t := 2) (u := 3) (v := .float .f64 ((negF ((fromInt ((((whole (bl ((((((s.extract 1 s.size)).extract 0 k)) ++ ((((s.extract 1 s.size)).extract ((k + 1)) ((s.extract 1 s.size)).size)))))) : Nat) : Int))))))) (v' := .bool true) rfl rfl rfl ?_
            have e0 := numL_minus (s := s) (by omega) (by omega)
            rw [hR] at e0; rw [show ((((s.extract 1 s.size)).extract ((k + 1)) ((s.extract 1 s.size)).size)).size = 0 by omega, numBits_zero] at e0
            exact ⟨by rw [e0]; rfl, hE91⟩
           ·
            exact absurd h198 (by omega)
      ·
       refine skip ?_
       refine kn76 _ _ ?_
       refine seqK fun Q203 kn204 kr205 ke206 => ?_
       refine seqK fun Q207 kn208 kr209 ke210 => ?_
       refine region ?_
       have hno : ∀ j, j < ((s.extract 1 s.size)).size → ch ((s.extract 1 s.size)) j ≠ 46 := by rcases hI with ⟨h1, h2⟩ | ⟨h1, _⟩; exact fun j hj => h2 j (by omega); omega
       have hc := Cut.no hno
       have hl2 : (ByteArray.mk #[]).size = 0 := rfl
       refine st_q (v := .string ((s.extract 1 s.size))) (x_move rfl) ?_
       refine st_c (t_call [.string ((s.extract 1 s.size))] T.cf30 rfl rfl) (digits30 ((s.extract 1 s.size)) _ (by simp only [maxLen]; omega)) ?_
       rintro _ _ ⟨rfl, rfl⟩
       refine ⟨_, rfl, ?_⟩
       refine st_q (v := .bool (decide (¬ ((digs (bl ((s.extract 1 s.size)))) = true)))) (x_notBB rfl) ?_
       refine st_if (p := ¬ ((digs (bl ((s.extract 1 s.size)))) = true)) (x_move rfl) (fun h211 => ?_) (fun h211 => ?_)
       ·
        refine st_gn 3 56 rfl rfl (by decide) rfl ?_
        refine st_gn 3 56 rfl rfl (by decide) rfl ?_
        refine st_gn 3 56 rfl rfl (by decide) rfl ?_
        refine st_gn 3 56 rfl rfl (by decide) rfl ?_
        refine st_gn 3 56 rfl rfl (by decide) rfl ?_
        refine st_gn 3 56 rfl rfl (by decide) rfl ?_
        refine st_q (v := .bool true) (x_pickT rfl rfl) ?_
        refine st_nil ?_
        refine kn208 _ _ ?_
        refine cndT rfl ?_
        refine seqK fun Q212 kn213 kr214 ke215 => ?_
        refine region ?_
        refine st_q (v := .float .f64 0) (x_assign rfl) ?_
        refine st_q (v := .bool false) (x_assign rfl) ?_
        refine st_nil ?_
        refine kn213 _ _ ?_
        refine ret ?_
        refine kr205 _ _ ?_
        refine leave2 (P := Tryd.prog) (fn := Tryd.f10) (t := 2) (u := 3) (v := .float .f64 0) (v' := .bool false) rfl rfl rfl ?_
        have e0 := numL_minus (s := s) (by omega) (by omega)
        first | rw [Cut.bad1 hk h46 hno (by assumption)] at e0 | rw [Cut.bad2 hc (by assumption)] at e0 | rw [Cut.bad3 hc (by assumption)] at e0
        exact ⟨by rw [e0]; rfl, hE0⟩
       ·
        refine st_gq 3 56 rfl rfl (by decide) ?_
        refine st_q (v := .string ((s.extract 1 s.size))) (x_move rfl) ?_
        refine st_gq 3 56 rfl rfl (by decide) ?_
        refine st_q (v := .int .i64 ((((s.extract 1 s.size)).size : Nat) : Int)) (x_lenS rfl Tryd.underlying9 rfl) ?_
        refine st_gq 3 56 rfl rfl (by decide) ?_
        refine st_q (v := .string ((ByteArray.mk #[]))) (x_move rfl) ?_
        refine st_gq 3 56 rfl rfl (by decide) ?_
        refine st_q (v := .int .i64 ((((ByteArray.mk #[])).size : Nat) : Int)) (x_lenS rfl Tryd.underlying9 rfl) ?_
        refine st_gq 3 56 rfl rfl (by decide) ?_
        refine st_q (v := .int .i64 (((((s.extract 1 s.size)).size + ((ByteArray.mk #[])).size) : Nat) : Int)) (x_addN rfl rfl (by omega)) ?_
        refine st_gq 3 56 rfl rfl (by decide) ?_
        refine st_q (v := .bool (decide (15 < ((((s.extract 1 s.size)).size + ((ByteArray.mk #[])).size))))) (x_gtrN rfl rfl) ?_
        refine st_q (v := .bool (decide (15 < ((((s.extract 1 s.size)).size + ((ByteArray.mk #[])).size))))) (x_pickF rfl rfl) ?_
        refine st_nil ?_
        refine kn208 _ _ ?_
        refine cnd (p := 15 < ((((s.extract 1 s.size)).size + ((ByteArray.mk #[])).size))) rfl (fun h216 => ?_) (fun h216 => ?_)
        ·
         refine seqK fun Q217 kn218 kr219 ke220 => ?_
         refine region ?_
         refine st_q (v := .float .f64 0) (x_assign rfl) ?_
         refine st_q (v := .bool false) (x_assign rfl) ?_
         refine st_nil ?_
         refine kn218 _ _ ?_
         refine ret ?_
         refine kr205 _ _ ?_
         refine leave2 (P := Tryd.prog) (fn := Tryd.f10) (t := 2) (u := 3) (v := .float .f64 0) (v' := .bool false) rfl rfl rfl ?_
         have e0 := numL_minus (s := s) (by omega) (by omega)
         first | rw [Cut.bad1 hk h46 hno (by assumption)] at e0 | rw [Cut.bad2 hc (by assumption)] at e0 | rw [Cut.bad3 hc (by assumption)] at e0
         exact ⟨by rw [e0]; rfl, hE0⟩
        ·
         refine skip ?_
         refine kn204 _ _ ?_
         refine seqK fun Q221 kn222 kr223 ke224 => ?_
         refine region ?_
         have hdf1 : digs (bl ((s.extract 1 s.size))) = true := Decidable.of_not_not (by assumption)
         have hdf := digs_dig hdf1
         have hdb : ∀ i, i < ((ByteArray.mk #[])).size → dig (ch ((ByteArray.mk #[])) i) := fun i hi => by omega
         have hsz := size_app ((s.extract 1 s.size)) ((ByteArray.mk #[]))
         have hR := Cut.good hc hdf1 (.inl (Cut.nodot hno)) (by assumption)
         refine st_q (v := .string ((s.extract 1 s.size))) (x_move rfl) ?_
         refine st_q (v := .string ((ByteArray.mk #[]))) (x_move rfl) ?_
         refine st_q (v := .string ((((s.extract 1 s.size)) ++ ((ByteArray.mk #[]))))) (x_addS rfl rfl (by omega)) ?_
         refine st_c (t_call [.string ((((s.extract 1 s.size)) ++ ((ByteArray.mk #[]))))] T.cf31 rfl rfl) (whole31 ((((s.extract 1 s.size)) ++ ((ByteArray.mk #[])))) _ (dig_app hdf.2 hdb) (by omega)) ?_
         rintro _ _ ⟨rfl, rfl⟩
         refine ⟨_, rfl, ?_⟩
         refine st_q (v := .float .f64 ((fromInt ((((whole (bl ((((s.extract 1 s.size)) ++ ((ByteArray.mk #[])))))) : Nat) : Int))))) (x_convF Tryd.underlying22 Tryd.underlying3 rfl) ?_
         refine st_q (v := .float .f64 ((fromInt ((((whole (bl ((((s.extract 1 s.size)) ++ ((ByteArray.mk #[])))))) : Nat) : Int))))) (x_assign rfl) ?_
         refine st_nil ?_
         refine kn222 _ _ ?_
         refine seqK fun Q225 kn226 kr227 ke228 => ?_
         refine seqK fun Q229 kn230 kr231 ke232 => ?_
         refine region ?_
         refine st_q (v := .string ((ByteArray.mk #[]))) (x_move rfl) ?_
         refine st_q (v := .int .i64 ((((ByteArray.mk #[])).size : Nat) : Int)) (x_lenS rfl Tryd.underlying9 rfl) ?_
         refine st_q (v := .bool (decide (0 < (((ByteArray.mk #[])).size)))) (x_gtrN rfl rfl) ?_
         refine st_nil ?_
         refine kn230 _ _ ?_
         refine cnd (p := 0 < (((ByteArray.mk #[])).size)) rfl (fun h233 => ?_) (fun h233 => ?_)
         ·
          refine seqK fun Q234 kn235 kr236 ke237 => ?_
          refine region ?_
          refine st_q (v := .int .i64 ((1 : Nat) : Int)) (x_assign rfl) ?_
          refine st_nil ?_
          refine kn235 _ _ ?_
          refine seqK fun Q238 kn239 kr240 ke241 => ?_
          refine seqK fun Q242 kn243 kr244 ke245 => ?_
          refine region ?_
          refine st_q (v := .int .i64 ((0 : Nat) : Int)) (x_assign rfl) ?_
          refine st_nil ?_
          refine kn243 _ _ ?_
          refine blockK fun Q246 kn247 kr248 kx249 kb250 => ?_
          refine loopK (α := Nat × Nat) (fun x => [(5, .bool (decide (((ch s 0)) = 45))), (9, .string ((ByteArray.mk #[]))), (10, .float .f64 ((fromInt ((((whole (bl ((((s.extract 1 s.size)) ++ ((ByteArray.mk #[])))))) : Nat) : Int))))), (11, .int .i64 ((x.1 : Nat) : Int)), (12, .int .i64 ((x.2 : Nat) : Int))]) (fun x w251 => w0 = w251 ∧ x.2 ≤ ((ByteArray.mk #[])).size ∧ x.1 = 10 ^ x.2) (fun x => ((ByteArray.mk #[])).size - x.2) (1, 0) ⟨rfl, rfl, rfl, rfl, rfl, trivial⟩ ?_ ?_
          ·
           refine ⟨rfl, ?_⟩
           try dsimp only
           exact ⟨Nat.zero_le _, rfl⟩
          ·
           rintro τ252 ⟨ten, i⟩ w253 ⟨rfl, ⟨hi, hten⟩⟩
           try dsimp only at hi hten
           intro Q254 kn255 kr256 ke257
           refine seqK fun Q258 kn259 kr260 ke261 => ?_
           refine seqK fun Q262 kn263 kr264 ke265 => ?_
           refine region ?_
           refine st_q (v := .int .i64 ((i : Nat) : Int)) (x_move rfl) ?_
           refine st_q (v := .string ((ByteArray.mk #[]))) (x_move rfl) ?_
           refine st_q (v := .int .i64 ((((ByteArray.mk #[])).size : Nat) : Int)) (x_lenS rfl Tryd.underlying9 rfl) ?_
           refine st_q (v := .bool (decide (i < (((ByteArray.mk #[])).size)))) (x_lssN rfl rfl) ?_
           refine st_nil ?_
           refine kn263 _ _ ?_
           refine cnd (p := i < (((ByteArray.mk #[])).size)) rfl (fun h266 => ?_) (fun h266 => ?_)
           ·
            refine skip ?_
            refine kn259 _ _ ?_
            refine seqK fun Q267 kn268 kr269 ke270 => ?_
            refine blockK fun Q271 kn272 kr273 kx274 kb275 => ?_
            refine region ?_
            have h14 : 10 ^ i ≤ 100000000000000 := Nat.le_trans (Nat.pow_le_pow_right (by decide) (show i ≤ 14 by omega)) (by decide)
            refine st_q (v := .int .i64 ((ten : Nat) : Int)) (x_move rfl) ?_
            refine st_q (v := .int .i64 (((10 * ten) : Nat) : Int)) (x_mulN rfl rfl (by omega)) ?_
            refine st_q (v := .int .i64 (((10 * ten) : Nat) : Int)) (x_assign rfl) ?_
            refine st_nil ?_
            refine kn272 _ _ ?_
            refine kn268 _ _ ?_
            refine region ?_
            refine st_q (v := .int .i64 ((i : Nat) : Int)) (x_move rfl) ?_
            refine st_q (v := .int .i64 (((i + 1) : Nat) : Int)) (x_addN rfl rfl (by omega)) ?_
            refine st_q (v := .int .i64 (((i + 1) : Nat) : Int)) (x_assign rfl) ?_
            refine st_nil ?_
            refine kn255 _ ((10 * ten), (i + 1)) _ ⟨rfl, rfl, rfl, rfl, rfl, trivial⟩ ⟨rfl, ?_⟩ ?_
            ·
             try dsimp only
             exact ⟨by omega, by rw [hten, Nat.pow_succ, Nat.mul_comm]⟩
            ·
             (try dsimp only); omega
           ·
            refine exit ?_
            refine ke261 _ _ _ ?_
            refine ke257 _ _ _ ?_
            refine kb250 _ _ ?_
            refine kn239 _ _ ?_
            refine region ?_
            obtain rfl : i = ((ByteArray.mk #[])).size := by omega
            refine st_q (v := .float .f64 ((fromInt ((((whole (bl ((((s.extract 1 s.size)) ++ ((ByteArray.mk #[])))))) : Nat) : Int))))) (x_move rfl) ?_
            refine st_q (v := .int .i64 ((ten : Nat) : Int)) (x_move rfl) ?_
            refine st_q (v := .float .f64 ((fromInt (((ten : Nat) : Int))))) (x_convF Tryd.underlying22 Tryd.underlying3 rfl) ?_
            refine st_q (v := .float .f64 ((numBits (whole (bl (((s.extract 1 s.size)) ++ ((ByteArray.mk #[]))))) ((ByteArray.mk #[])).size))) (x_quoF rfl rfl (by rw [hten]; exact numBits_pos (by omega) (by omega))) ?_
            refine st_q (v := .float .f64 ((numBits (whole (bl (((s.extract 1 s.size)) ++ ((ByteArray.mk #[]))))) ((ByteArray.mk #[])).size))) (x_assign rfl) ?_
            refine st_nil ?_
            refine kn226 _ _ ?_
            refine seqK fun Q276 kn277 kr278 ke279 => ?_
            refine seqK fun Q280 kn281 kr282 ke283 => ?_
            refine region ?_
            refine st_q (v := .bool (decide (((ch s 0)) = 45))) (x_move rfl) ?_
            refine st_nil ?_
            refine kn281 _ _ ?_
            refine cnd (p := ((ch s 0)) = 45) rfl (fun h284 => ?_) (fun h284 => ?_)
            ·
             refine region ?_
             refine st_q (v := .float .f64 ((numBits (whole (bl (((s.extract 1 s.size)) ++ ((ByteArray.mk #[]))))) ((ByteArray.mk #[])).size))) (x_move rfl) ?_
             refine st_q (v := .float .f64 ((negF ((numBits (whole (bl (((s.extract 1 s.size)) ++ ((ByteArray.mk #[]))))) ((ByteArray.mk #[])).size))))) (x_negF rfl) ?_
             refine st_q (v := .float .f64 ((negF ((numBits (whole (bl (((s.extract 1 s.size)) ++ ((ByteArray.mk #[]))))) ((ByteArray.mk #[])).size))))) (x_assign rfl) ?_
             refine st_nil ?_
             refine kn277 _ _ ?_
             refine seqK fun Q285 kn286 kr287 ke288 => ?_
             refine region ?_
             refine st_q (v := .float .f64 ((negF ((numBits (whole (bl (((s.extract 1 s.size)) ++ ((ByteArray.mk #[]))))) ((ByteArray.mk #[])).size))))) (x_move rfl) ?_
             refine st_q (v := .float .f64 ((negF ((numBits (whole (bl (((s.extract 1 s.size)) ++ ((ByteArray.mk #[]))))) ((ByteArray.mk #[])).size))))) (x_assign rfl) ?_
             refine st_q (v := .bool true) (x_assign rfl) ?_
             refine st_nil ?_
             refine kn286 _ _ ?_
             refine ret ?_
             refine leave2 (P := Tryd.prog) (fn := Tryd.f10) (t := 2) (u := 3) (v := .float .f64 ((negF ((numBits (whole (bl (((s.extract 1 s.size)) ++ ((ByteArray.mk #[]))))) ((ByteArray.mk #[])).size))))) (v' := .bool true) rfl rfl rfl ?_
             have e0 := numL_minus (s := s) (by omega) (by omega)
             rw [hR] at e0
             exact ⟨by rw [e0]; rfl, hE0⟩
            ·
             exact absurd h284 (by omega)
         ·
          refine skip ?_
          refine kn226 _ _ ?_
          refine seqK fun Q289 kn290 kr291 ke292 => ?_
          refine seqK fun Q293 kn294 kr295 ke296 => ?_
          refine region ?_
          refine st_q (v := .bool (decide (((ch s 0)) = 45))) (x_move rfl) ?_
          refine st_nil ?_
          refine kn294 _ _ ?_
          refine cnd (p := ((ch s 0)) = 45) rfl (fun h297 => ?_) (fun h297 => ?_)
          ·
           refine region ?_
           refine st_q (v := .float .f64 ((fromInt ((((whole (bl ((((s.extract 1 s.size)) ++ ((ByteArray.mk #[])))))) : Nat) : Int))))) (x_move rfl) ?_
           refine st_q (v := .float .f64 ((negF ((fromInt ((((whole (bl ((((s.extract 1 s.size)) ++ ((ByteArray.mk #[])))))) : Nat) : Int))))))) (x_negF rfl) ?_
           refine st_q (v := .float .f64 ((negF ((fromInt ((((whole (bl ((((s.extract 1 s.size)) ++ ((ByteArray.mk #[])))))) : Nat) : Int))))))) (x_assign rfl) ?_
           refine st_nil ?_
           refine kn290 _ _ ?_
           refine seqK fun Q298 kn299 kr300 ke301 => ?_
           refine region ?_
           refine st_q (v := .float .f64 ((negF ((fromInt ((((whole (bl ((((s.extract 1 s.size)) ++ ((ByteArray.mk #[])))))) : Nat) : Int))))))) (x_move rfl) ?_
           refine st_q (v := .float .f64 ((negF ((fromInt ((((whole (bl ((((s.extract 1 s.size)) ++ ((ByteArray.mk #[])))))) : Nat) : Int))))))) (x_assign rfl) ?_
           refine st_q (v := .bool true) (x_assign rfl) ?_
           refine st_nil ?_
           refine kn299 _ _ ?_
           refine ret ?_
           refine leave2 (P := Tryd.prog) (fn := Tryd.f10) (t := 2) (u := 3) (v := .float .f64 ((negF ((fromInt ((((whole (bl ((((s.extract 1 s.size)) ++ ((ByteArray.mk #[])))))) : Nat) : Int))))))) (v' := .bool true) rfl rfl rfl ?_
           have e0 := numL_minus (s := s) (by omega) (by omega)
           rw [hR] at e0; rw [show ((ByteArray.mk #[])).size = 0 by omega, numBits_zero] at e0
           exact ⟨by rw [e0]; rfl, hE0⟩
          ·
           exact absurd h297 (by omega)
   ·
    refine skip ?_
    refine kn15 _ _ ?_
    refine seqK fun Q302 kn303 kr304 ke305 => ?_
    refine region ?_
    refine st_q (v := .int .i64 (-1)) (x_assign rfl) ?_
    refine st_nil ?_
    refine kn303 _ _ ?_
    refine seqK fun Q306 kn307 kr308 ke309 => ?_
    refine seqK fun Q310 kn311 kr312 ke313 => ?_
    refine region ?_
    refine st_q (v := .int .i64 ((0 : Nat) : Int)) (x_assign rfl) ?_
    refine st_nil ?_
    refine kn311 _ _ ?_
    refine blockK fun Q314 kn315 kr316 kx317 kb318 => ?_
    refine loopK (α := Nat × Int) (fun x => [(4, .string s), (5, .bool (decide (((ch s 0)) = 45))), (6, .int .i64 x.2), (7, .int .i64 ((x.1 : Nat) : Int))]) (fun x w319 => w0 = w319 ∧ x.1 ≤ s.size ∧ ((x.2 = -1 ∧ ∀ j, j < x.1 → ch s j ≠ 46) ∨ (0 ≤ x.2 ∧ x.2.toNat < x.1 ∧ ch s x.2.toNat = 46 ∧ ∀ j, j < x.2.toNat → ch s j ≠ 46))) (fun x => s.size - x.1) (0, (-1)) ⟨rfl, rfl, rfl, rfl, trivial⟩ ?_ ?_
    ·
     refine ⟨rfl, ?_⟩
     try dsimp only
     exact ⟨Nat.zero_le _, .inl ⟨rfl, fun j h => by omega⟩⟩
    ·
     rintro τ320 ⟨i, d⟩ w321 ⟨rfl, ⟨hi, hI⟩⟩
     try dsimp only at hi hI
     intro Q322 kn323 kr324 ke325
     refine seqK fun Q326 kn327 kr328 ke329 => ?_
     refine seqK fun Q330 kn331 kr332 ke333 => ?_
     refine region ?_
     refine st_q (v := .int .i64 ((i : Nat) : Int)) (x_move rfl) ?_
     refine st_q (v := .string s) (x_move rfl) ?_
     refine st_q (v := .int .i64 ((s.size : Nat) : Int)) (x_lenS rfl Tryd.underlying9 rfl) ?_
     refine st_q (v := .bool (decide (i < s.size))) (x_lssN rfl rfl) ?_
     refine st_nil ?_
     refine kn331 _ _ ?_
     refine cnd (p := i < s.size) rfl (fun h334 => ?_) (fun h334 => ?_)
     ·
      refine skip ?_
      refine kn327 _ _ ?_
      refine seqK fun Q335 kn336 kr337 ke338 => ?_
      refine blockK fun Q339 kn340 kr341 kx342 kb343 => ?_
      refine seqK fun Q344 kn345 kr346 ke347 => ?_
      refine region ?_
      refine st_q (v := .string s) (x_move rfl) ?_
      refine st_q (v := .int .i64 ((i : Nat) : Int)) (x_move rfl) ?_
      refine st_q (v := .int .u8 (((ch s i) : Nat) : Int)) (x_indexS Tryd.underlying9 rfl rfl (by omega)) ?_
      refine st_q (v := .bool (decide (((ch s i)) = 46))) (x_eqlN rfl rfl) ?_
      refine st_if (p := ((ch s i)) = 46) (x_move rfl) (fun h348 => ?_) (fun h348 => ?_)
      ·
       refine st_gq 4 35 rfl rfl (by decide) ?_
       refine st_q (v := .int .i64 d) (x_move rfl) ?_
       refine st_gq 4 35 rfl rfl (by decide) ?_
       refine st_q (v := .bool (decide (d < 0))) (x_lss rfl rfl) ?_
       refine st_q (v := .bool (decide (d < 0))) (x_pickT rfl rfl) ?_
       refine st_nil ?_
       refine kn345 _ _ ?_
       refine cnd (p := d < 0) rfl (fun h349 => ?_) (fun h349 => ?_)
       ·
        refine region ?_
        refine st_q (v := .int .i64 ((i : Nat) : Int)) (x_move rfl) ?_
        refine st_q (v := .int .i64 ((i : Nat) : Int)) (x_assign rfl) ?_
        refine st_nil ?_
        refine kn340 _ _ ?_
        refine kn336 _ _ ?_
        refine region ?_
        refine st_q (v := .int .i64 ((i : Nat) : Int)) (x_move rfl) ?_
        refine st_q (v := .int .i64 (((i + 1) : Nat) : Int)) (x_addN rfl rfl (by omega)) ?_
        refine st_q (v := .int .i64 (((i + 1) : Nat) : Int)) (x_assign rfl) ?_
        refine st_nil ?_
        refine kn323 _ ((i + 1), ((i : Nat) : Int)) _ ⟨rfl, rfl, rfl, rfl, trivial⟩ ⟨rfl, ?_⟩ ?_
        ·
         try dsimp only
         refine ⟨by omega, .inr ⟨by omega, by omega, by assumption, fun j hj => ?_⟩⟩
         rcases hI with ⟨_, h2⟩ | ⟨h1, _⟩
         · exact h2 j (by omega)
         · omega
        ·
         (try dsimp only); omega
       ·
        refine skip ?_
        refine kn340 _ _ ?_
        refine kn336 _ _ ?_
        refine region ?_
        refine st_q (v := .int .i64 ((i : Nat) : Int)) (x_move rfl) ?_
        refine st_q (v := .int .i64 (((i + 1) : Nat) : Int)) (x_addN rfl rfl (by omega)) ?_
        refine st_q (v := .int .i64 (((i + 1) : Nat) : Int)) (x_assign rfl) ?_
        refine st_nil ?_
        refine kn323 _ ((i + 1), d) _ ⟨rfl, rfl, rfl, rfl, trivial⟩ ⟨rfl, ?_⟩ ?_
        ·
         try dsimp only
         refine ⟨by omega, ?_⟩
         rcases hI with ⟨h1, h2⟩ | ⟨h1, h2, h3, h4⟩
         · refine .inl ⟨h1, fun j hj => ?_⟩
           by_cases e : j = i
           · subst e; first | assumption | (exfalso; omega)
           · exact h2 j (by omega)
         · exact .inr ⟨h1, by omega, h3, h4⟩
        ·
         (try dsimp only); omega
      ·
       refine st_gn 4 35 rfl rfl (by decide) rfl ?_
       refine st_gn 4 35 rfl rfl (by decide) rfl ?_
       refine st_q (v := .bool false) (x_pickF rfl rfl) ?_
       refine st_nil ?_
       refine kn345 _ _ ?_
       refine cndF rfl ?_
       refine skip ?_
       refine kn340 _ _ ?_
       refine kn336 _ _ ?_
       refine region ?_
       refine st_q (v := .int .i64 ((i : Nat) : Int)) (x_move rfl) ?_
       refine st_q (v := .int .i64 (((i + 1) : Nat) : Int)) (x_addN rfl rfl (by omega)) ?_
       refine st_q (v := .int .i64 (((i + 1) : Nat) : Int)) (x_assign rfl) ?_
       refine st_nil ?_
       refine kn323 _ ((i + 1), d) _ ⟨rfl, rfl, rfl, rfl, trivial⟩ ⟨rfl, ?_⟩ ?_
       ·
        try dsimp only
        refine ⟨by omega, ?_⟩
        rcases hI with ⟨h1, h2⟩ | ⟨h1, h2, h3, h4⟩
        · refine .inl ⟨h1, fun j hj => ?_⟩
          by_cases e : j = i
          · subst e; first | assumption | (exfalso; omega)
          · exact h2 j (by omega)
        · exact .inr ⟨h1, by omega, h3, h4⟩
       ·
        (try dsimp only); omega
     ·
      refine exit ?_
      refine ke329 _ _ _ ?_
      refine ke325 _ _ _ ?_
      refine kb318 _ _ ?_
      refine kn307 _ _ ?_
      refine seqK fun Q350 kn351 kr352 ke353 => ?_
      refine region ?_
      refine st_q (v := .string s) (x_move rfl) ?_
      refine st_q (v := .string s) (x_assign rfl) ?_
      refine st_q (v := .string ((ByteArray.mk #[]))) (x_assign rfl) ?_
      refine st_nil ?_
      refine kn351 _ _ ?_
      refine seqK fun Q354 kn355 kr356 ke357 => ?_
      refine seqK fun Q358 kn359 kr360 ke361 => ?_
      refine region ?_
      refine st_q (v := .int .i64 d) (x_move rfl) ?_
      refine st_q (v := .bool (decide (0 ≤ d))) (x_geq rfl rfl) ?_
      refine st_nil ?_
      refine kn359 _ _ ?_
      refine cnd (p := 0 ≤ d) rfl (fun h362 => ?_) (fun h362 => ?_)
      ·
       refine seqK fun Q363 kn364 kr365 ke366 => ?_
       refine regionD1 [] [0, 1, 2, 3, 4, 5, 6, 7, 8] (.one 0 (.one 1 (.one 2 (.one 3 (.one 4 (.one 5 (.one 6 (.one 7 (.one 8 .done))))))))) (by kernel_rfl) (by kernel_rfl) ?_
       intro w367 hx368 hs369
       have hE370 : Below w0.heap.size w0 w367 := hx368.e hE0 (Nat.le_refl _)
       have hz371 := hE370.le
       have hs372 := hx368.size
       have hS373 : Ext w367 w367 := Below.refl _ _
       obtain ⟨k, rfl⟩ : ∃ k : Nat, d = ((k : Nat) : Int) := ⟨d.toNat, by omega⟩
       obtain ⟨hk, h46, hno⟩ : k < s.size ∧ ch s k = 46 ∧ ∀ j, j < k → ch s j ≠ 46 := by rcases hI with ⟨h1, h2⟩ | ⟨h1, h2, h3, h4⟩; omega; exact ⟨by omega, h3, h4⟩
       have hc := Cut.at hk h46 hno
       have hl1 := size_lo (s := s) (k := k) (by omega)
       have hl2 := size_hi s (k + 1)
       refine d_q (v := .string s) rfl rfl (fun _ => x_move rfl) ?_
       refine d_q (v := .int .i64 ((k : Nat) : Int)) rfl rfl (fun _ => x_move rfl) ?_
       refine d_q (v := .string ((s.extract 0 k))) rfl rfl (fun _ => x_sliceSHi Tryd.underlying9 rfl rfl (by omega)) ?_
       refine d_q (v := .string s) rfl rfl (fun _ => x_move rfl) ?_
       refine d_q (v := .int .i64 ((k : Nat) : Int)) rfl rfl (fun _ => x_move rfl) ?_
       refine d_q (v := .int .i64 (((k + 1) : Nat) : Int)) rfl rfl (fun _ => x_addN rfl rfl (by omega)) ?_
       refine d_q (v := .string ((s.extract ((k + 1)) s.size))) rfl rfl (fun _ => x_sliceSLo Tryd.underlying9 rfl rfl (by omega)) ?_
       refine d_q (v := .string ((s.extract 0 k))) rfl rfl (fun _ => x_assign rfl) ?_
       refine d_q (v := .string ((s.extract ((k + 1)) s.size))) rfl rfl (fun _ => x_assign rfl) ?_
       refine d_done ?_
       refine kn364 _ _ ?_
       refine seqK fun Q374 kn375 kr376 ke377 => ?_
       refine region ?_
       refine st_q (v := .string ((s.extract ((k + 1)) s.size))) (x_move rfl) ?_
       refine st_c (t_call [.string ((s.extract ((k + 1)) s.size))] T.cf30 rfl rfl) (digits30 ((s.extract ((k + 1)) s.size)) _ (by simp only [maxLen]; omega)) ?_
       rintro _ _ ⟨rfl, rfl⟩
       refine ⟨_, rfl, ?_⟩
       refine st_q (v := .bool (decide (¬ ((digs (bl ((s.extract ((k + 1)) s.size)))) = true)))) (x_notBB rfl) ?_
       refine st_nil ?_
       refine kn375 _ _ ?_
       refine cnd (p := ¬ ((digs (bl ((s.extract ((k + 1)) s.size)))) = true)) rfl (fun h378 => ?_) (fun h378 => ?_)
       ·
        refine seqK fun Q379 kn380 kr381 ke382 => ?_
        refine region ?_
        refine st_q (v := .float .f64 0) (x_assign rfl) ?_
        refine st_q (v := .bool false) (x_assign rfl) ?_
        refine st_nil ?_
        refine kn380 _ _ ?_
        refine ret ?_
        refine kr356 _ _ ?_
        refine leave2 (P := Tryd.prog) (fn := Tryd.f10) (t := 2) (u := 3) (v := .float .f64 0) (v' := .bool false) rfl rfl rfl ?_
        have e0 := numL_plain (s := s) (by omega)
        first | rw [Cut.bad1 hk h46 hno (by assumption)] at e0 | rw [Cut.bad2 hc (by assumption)] at e0 | rw [Cut.bad3 hc (by assumption)] at e0
        exact ⟨by rw [e0]; rfl, hE370⟩
       ·
        refine skip ?_
        refine kn355 _ _ ?_
        refine seqK fun Q383 kn384 kr385 ke386 => ?_
        refine seqK fun Q387 kn388 kr389 ke390 => ?_
        refine region ?_
        refine st_q (v := .string ((s.extract 0 k))) (x_move rfl) ?_
        refine st_c (t_call [.string ((s.extract 0 k))] T.cf30 rfl rfl) (digits30 ((s.extract 0 k)) _ (by simp only [maxLen]; omega)) ?_
        rintro _ _ ⟨rfl, rfl⟩
        refine ⟨_, rfl, ?_⟩
        refine st_q (v := .bool (decide (¬ ((digs (bl ((s.extract 0 k)))) = true)))) (x_notBB rfl) ?_
        refine st_if (p := ¬ ((digs (bl ((s.extract 0 k)))) = true)) (x_move rfl) (fun h391 => ?_) (fun h391 => ?_)
        ·
         refine st_gn 3 56 rfl rfl (by decide) rfl ?_
         refine st_gn 3 56 rfl rfl (by decide) rfl ?_
         refine st_gn 3 56 rfl rfl (by decide) rfl ?_
         refine st_gn 3 56 rfl rfl (by decide) rfl ?_
         refine st_gn 3 56 rfl rfl (by decide) rfl ?_
         refine st_gn 3 56 rfl rfl (by decide) rfl ?_
         refine st_q (v := .bool true) (x_pickT rfl rfl) ?_
         refine st_nil ?_
         refine kn388 _ _ ?_
         refine cndT rfl ?_
         refine seqK fun Q392 kn393 kr394 ke395 => ?_
         refine region ?_
         refine st_q (v := .float .f64 0) (x_assign rfl) ?_
         refine st_q (v := .bool false) (x_assign rfl) ?_
         refine st_nil ?_
         refine kn393 _ _ ?_
         refine ret ?_
         refine kr385 _ _ ?_
         refine leave2 (P := Tryd.prog) (fn := Tryd.f10) (t := 2) (u := 3) (v := .float .f64 0) (v' := .bool false) rfl rfl rfl ?_
         have e0 := numL_plain (s := s) (by omega)
         first | rw [Cut.bad1 hk h46 hno (by assumption)] at e0 | rw [Cut.bad2 hc (by assumption)] at e0 | rw [Cut.bad3 hc (by assumption)] at e0
         exact ⟨by rw [e0]; rfl, hE370⟩
        ·
         refine st_gq 3 56 rfl rfl (by decide) ?_
         refine st_q (v := .string ((s.extract 0 k))) (x_move rfl) ?_
         refine st_gq 3 56 rfl rfl (by decide) ?_
         refine st_q (v := .int .i64 ((((s.extract 0 k)).size : Nat) : Int)) (x_lenS rfl Tryd.underlying9 rfl) ?_
         refine st_gq 3 56 rfl rfl (by decide) ?_
         refine st_q (v := .string ((s.extract ((k + 1)) s.size))) (x_move rfl) ?_
         refine st_gq 3 56 rfl rfl (by decide) ?_
         refine st_q (v := .int .i64 ((((s.extract ((k + 1)) s.size)).size : Nat) : Int)) (x_lenS rfl Tryd.underlying9 rfl) ?_
         refine st_gq 3 56 rfl rfl (by decide) ?_
         refine st_q (v := .int .i64 (((((s.extract 0 k)).size + ((s.extract ((k + 1)) s.size)).size) : Nat) : Int)) (x_addN rfl rfl (by omega)) ?_
         refine st_gq 3 56 rfl rfl (by decide) ?_
         refine st_q (v := .bool (decide (15 < ((((s.extract 0 k)).size + ((s.extract ((k + 1)) s.size)).size))))) (x_gtrN rfl rfl) ?_
         refine st_q (v := .bool (decide (15 < ((((s.extract 0 k)).size + ((s.extract ((k + 1)) s.size)).size))))) (x_pickF rfl rfl) ?_
         refine st_nil ?_
         refine kn388 _ _ ?_
         refine cnd (p := 15 < ((((s.extract 0 k)).size + ((s.extract ((k + 1)) s.size)).size))) rfl (fun h396 => ?_) (fun h396 => ?_)
         ·
          refine seqK fun Q397 kn398 kr399 ke400 => ?_
          refine region ?_
          refine st_q (v := .float .f64 0) (x_assign rfl) ?_
          refine st_q (v := .bool false) (x_assign rfl) ?_
          refine st_nil ?_
          refine kn398 _ _ ?_
          refine ret ?_
          refine kr385 _ _ ?_
          refine leave2 (P := Tryd.prog) (fn := Tryd.f10) (t := 2) (u := 3) (v := .float .f64 0) (v' := .bool false) rfl rfl rfl ?_
          have e0 := numL_plain (s := s) (by omega)
          first | rw [Cut.bad1 hk h46 hno (by assumption)] at e0 | rw [Cut.bad2 hc (by assumption)] at e0 | rw [Cut.bad3 hc (by assumption)] at e0
          exact ⟨by rw [e0]; rfl, hE370⟩
         ·
          refine skip ?_
          refine kn384 _ _ ?_
          refine seqK fun Q401 kn402 kr403 ke404 => ?_
          refine region ?_
          have hdf1 : digs (bl ((s.extract 0 k))) = true := Decidable.of_not_not (by assumption)
          have hdf := digs_dig hdf1
          have hdb1 : digs (bl ((s.extract ((k + 1)) s.size))) = true := Decidable.of_not_not (by assumption)
          have hdb := digs_dig hdb1
          have hsz := size_app ((s.extract 0 k)) ((s.extract ((k + 1)) s.size))
          have hR := Cut.good hc hdf1 (.inr hdb1) (by assumption)
          refine st_q (v := .string ((s.extract 0 k))) (x_move rfl) ?_
          refine st_q (v := .string ((s.extract ((k + 1)) s.size))) (x_move rfl) ?_
          refine st_q (v := .string ((((s.extract 0 k)) ++ ((s.extract ((k + 1)) s.size))))) (x_addS rfl rfl (by omega)) ?_
          refine st_c (t_call [.string ((((s.extract 0 k)) ++ ((s.extract ((k + 1)) s.size))))] T.cf31 rfl rfl) (whole31 ((((s.extract 0 k)) ++ ((s.extract ((k + 1)) s.size)))) _ (dig_app hdf.2 hdb.2) (by omega)) ?_
          rintro _ _ ⟨rfl, rfl⟩
          refine ⟨_, rfl, ?_⟩
          refine st_q (v := .float .f64 ((fromInt ((((whole (bl ((((s.extract 0 k)) ++ ((s.extract ((k + 1)) s.size)))))) : Nat) : Int))))) (x_convF Tryd.underlying22 Tryd.underlying3 rfl) ?_
          refine st_q (v := .float .f64 ((fromInt ((((whole (bl ((((s.extract 0 k)) ++ ((s.extract ((k + 1)) s.size)))))) : Nat) : Int))))) (x_assign rfl) ?_
          refine st_nil ?_
          refine kn402 _ _ ?_
          refine seqK fun Q405 kn406 kr407 ke408 => ?_
          refine seqK fun Q409 kn410 kr411 ke412 => ?_
          refine region ?_
          refine st_q (v := .string ((s.extract ((k + 1)) s.size))) (x_move rfl) ?_
          refine st_q (v := .int .i64 ((((s.extract ((k + 1)) s.size)).size : Nat) : Int)) (x_lenS rfl Tryd.underlying9 rfl) ?_
          refine st_q (v := .bool (decide (0 < (((s.extract ((k + 1)) s.size)).size)))) (x_gtrN rfl rfl) ?_
          refine st_nil ?_
          refine kn410 _ _ ?_
          refine cnd (p := 0 < (((s.extract ((k + 1)) s.size)).size)) rfl (fun h413 => ?_) (fun h413 => ?_)
          ·
           refine seqK fun Q414 kn415 kr416 ke417 => ?_
           refine region ?_
           refine st_q (v := .int .i64 ((1 : Nat) : Int)) (x_assign rfl) ?_
           refine st_nil ?_
           refine kn415 _ _ ?_
           refine seqK fun Q418 kn419 kr420 ke421 => ?_
           refine seqK fun Q422 kn423 kr424 ke425 => ?_
           refine region ?_
           refine st_q (v := .int .i64 ((0 : Nat) : Int)) (x_assign rfl) ?_
           refine st_nil ?_
           refine kn423 _ _ ?_
           refine blockK fun Q426 kn427 kr428 kx429 kb430 => ?_
           refine loopK (α := Nat × Nat) (fun x => [(5, .bool (decide (((ch s 0)) = 45))), (9, .string ((s.extract ((k + 1)) s.size))), (10, .float .f64 ((fromInt ((((whole (bl ((((s.extract 0 k)) ++ ((s.extract ((k + 1)) s.size)))))) : Nat) : Int))))), (11, .int .i64 ((x.1 : Nat) : Int)), (12, .int .i64 ((x.2 : Nat) : Int))]) (fun x w431 => w367 = w431 ∧ x.2 ≤ ((s.extract ((k + 1)) s.size)).size ∧ x.1 = 10 ^ x.2) (fun x => ((s.extract ((k + 1)) s.size)).size - x.2) (1, 0) ⟨rfl, rfl, rfl, rfl, rfl, trivial⟩ ?_ ?_
           ·
            refine ⟨rfl, ?_⟩
            try dsimp only
            exact ⟨Nat.zero_le _, rfl⟩
           ·
            rintro τ432 ⟨ten, i⟩ w433 ⟨rfl, ⟨hi, hten⟩⟩
            try dsimp only at hi hten
            intro Q434 kn435 kr436 ke437
            refine seqK fun Q438 kn439 kr440 ke441 => ?_
            refine seqK fun Q442 kn443 kr444 ke445 => ?_
            refine region ?_
            refine st_q (v := .int .i64 ((i : Nat) : Int)) (x_move rfl) ?_
            refine st_q (v := .string ((s.extract ((k + 1)) s.size))) (x_move rfl) ?_
            refine st_q (v := .int .i64 ((((s.extract ((k + 1)) s.size)).size : Nat) : Int)) (x_lenS rfl Tryd.underlying9 rfl) ?_
            refine st_q (v := .bool (decide (i < (((s.extract ((k + 1)) s.size)).size)))) (x_lssN rfl rfl) ?_
            refine st_nil ?_
            refine kn443 _ _ ?_
            refine cnd (p := i < (((s.extract ((k + 1)) s.size)).size)) rfl (fun h446 => ?_) (fun h446 => ?_)
            ·
             refine skip ?_
             refine kn439 _ _ ?_
             refine seqK fun Q447 kn448 kr449 ke450 => ?_
             refine blockK fun Q451 kn452 kr453 kx454 kb455 => ?_
             refine region ?_
             have h14 : 10 ^ i ≤ 100000000000000 := Nat.le_trans (Nat.pow_le_pow_right (by decide) (show i ≤ 14 by omega)) (by decide)
             refine st_q (v := .int .i64 ((ten : Nat) : Int)) (x_move rfl) ?_
             refine st_q (v := .int .i64 (((10 * ten) : Nat) : Int)) (x_mulN rfl rfl (by omega)) ?_
             refine st_q (v := .int .i64 (((10 * ten) : Nat) : Int)) (x_assign rfl) ?_
             refine st_nil ?_
             refine kn452 _ _ ?_
             refine kn448 _ _ ?_
             refine region ?_
             refine st_q (v := .int .i64 ((i : Nat) : Int)) (x_move rfl) ?_
             refine st_q (v := .int .i64 (((i + 1) : Nat) : Int)) (x_addN rfl rfl (by omega)) ?_
             refine st_q (v := .int .i64 (((i + 1) : Nat) : Int)) (x_assign rfl) ?_
             refine st_nil ?_
             refine kn435 _ ((10 * ten), (i + 1)) _ ⟨rfl, rfl, rfl, rfl, rfl, trivial⟩ ⟨rfl, ?_⟩ ?_
             ·
              try dsimp only
              exact ⟨by omega, by rw [hten, Nat.pow_succ, Nat.mul_comm]⟩
             ·
              (try dsimp only); omega
            ·
             refine exit ?_
             refine ke441 _ _ _ ?_
             refine ke437 _ _ _ ?_
             refine kb430 _ _ ?_
             refine kn419 _ _ ?_
             refine region ?_
             obtain rfl : i = ((s.extract ((k + 1)) s.size)).size := by omega
             refine st_q (v := .float .f64 ((fromInt ((((whole (bl ((((s.extract 0 k)) ++ ((s.extract ((k + 1)) s.size)))))) : Nat) : Int))))) (x_move rfl) ?_
             refine st_q (v := .int .i64 ((ten : Nat) : Int)) (x_move rfl) ?_
             refine st_q (v := .float .f64 ((fromInt (((ten : Nat) : Int))))) (x_convF Tryd.underlying22 Tryd.underlying3 rfl) ?_
             refine st_q (v := .float .f64 ((numBits (whole (bl (((s.extract 0 k)) ++ ((s.extract ((k + 1)) s.size))))) ((s.extract ((k + 1)) s.size)).size))) (x_quoF rfl rfl (by rw [hten]; exact numBits_pos (by omega) (by omega))) ?_
             refine st_q (v := .float .f64 ((numBits (whole (bl (((s.extract 0 k)) ++ ((s.extract ((k + 1)) s.size))))) ((s.extract ((k + 1)) s.size)).size))) (x_assign rfl) ?_
             refine st_nil ?_
             refine kn406 _ _ ?_
             refine seqK fun Q456 kn457 kr458 ke459 => ?_
             refine seqK fun Q460 kn461 kr462 ke463 => ?_
             refine region ?_
             refine st_q (v := .bool (decide (((ch s 0)) = 45))) (x_move rfl) ?_
             refine st_nil ?_
             refine kn461 _ _ ?_
             refine cnd (p := ((ch s 0)) = 45) rfl (fun h464 => ?_) (fun h464 => ?_)
             ·
              exact absurd h464 (by omega)
             ·
              refine skip ?_
              refine kn457 _ _ ?_
              refine seqK fun Q465 kn466 kr467 ke468 => ?_
              refine region ?_
              refine st_q (v := .float .f64 ((numBits (whole (bl (((s.extract 0 k)) ++ ((s.extract ((k + 1)) s.size))))) ((s.extract ((k + 1)) s.size)).size))) (x_move rfl) ?_
              refine st_q (v := .float .f64 ((numBits (whole (bl (((s.extract 0 k)) ++ ((s.extract ((k + 1)) s.size))))) ((s.extract ((k + 1)) s.size)).size))) (x_assign rfl) ?_
              refine st_q (v := .bool true) (x_assign rfl) ?_
              refine st_nil ?_
              refine kn466 _ _ ?_
              refine ret ?_
              refine leave2 (P := Tryd.prog) (fn := Tryd.f10) (t := 2) (u := 3) (v := .float .f64 ((numBits (whole (bl (((s.extract 0 k)) ++ ((s.extract ((k + 1)) s.size))))) ((s.extract ((k + 1)) s.size)).size))) (v' := .bool true) rfl rfl rfl ?_
              have e0 := numL_plain (s := s) (by omega)
              rw [hR] at e0
              exact ⟨by rw [e0]; rfl, hE370⟩
          ·
           refine skip ?_
           refine kn406 _ _ ?_
           refine seqK fun Q469 kn470 kr471 ke472 => ?_
           refine seqK fun Q473 kn474 kr475 ke476 => ?_
           refine region ?_
           refine st_q (v := .bool (decide (((ch s 0)) = 45))) (x_move rfl) ?_
           refine st_nil ?_
           refine kn474 _ _ ?_
           refine cnd (p := ((ch s 0)) = 45) rfl (fun h477 => ?_) (fun h477 => ?_)
           ·
            exact absurd h477 (by omega)
           ·
            refine skip ?_
            refine kn470 _ _ ?_
            refine seqK fun Q478 kn479 kr480 ke481 => ?_
            refine region ?_
            refine st_q (v := .float .f64 ((fromInt ((((whole (bl ((((s.extract 0 k)) ++ ((s.extract ((k + 1)) s.size)))))) : Nat) : Int))))) (x_move rfl) ?_
            refine st_q (v := .float .f64 ((fromInt ((((whole (bl ((((s.extract 0 k)) ++ ((s.extract ((k + 1)) s.size)))))) : Nat) : Int))))) (x_assign rfl) ?_
            refine st_q (v := .bool true) (x_assign rfl) ?_
            refine st_nil ?_
            refine kn479 _ _ ?_
            refine ret ?_
            refine leave2 (P := Tryd.prog) (fn := Tryd.f10) (t := 2) (u := 3) (v := .float .f64 ((fromInt ((((whole (bl ((((s.extract 0 k)) ++ ((s.extract ((k + 1)) s.size)))))) : Nat) : Int))))) (v' := .bool true) rfl rfl rfl ?_
            have e0 := numL_plain (s := s) (by omega)
            rw [hR] at e0; rw [show ((s.extract ((k + 1)) s.size)).size = 0 by omega, numBits_zero] at e0
            exact ⟨by rw [e0]; rfl, hE370⟩
      ·
       refine skip ?_
       refine kn355 _ _ ?_
       refine seqK fun Q482 kn483 kr484 ke485 => ?_
       refine seqK fun Q486 kn487 kr488 ke489 => ?_
       refine region ?_
       have hno : ∀ j, j < s.size → ch s j ≠ 46 := by rcases hI with ⟨h1, h2⟩ | ⟨h1, _⟩; exact fun j hj => h2 j (by omega); omega
       have hc := Cut.no hno
       have hl2 : (ByteArray.mk #[]).size = 0 := rfl
       refine st_q (v := .string s) (x_move rfl) ?_
       refine st_c (t_call [.string s] T.cf30 rfl rfl) (digits30 s _ (by simp only [maxLen]; omega)) ?_
       rintro _ _ ⟨rfl, rfl⟩
       refine ⟨_, rfl, ?_⟩
       refine st_q (v := .bool (decide (¬ ((digs (bl s)) = true)))) (x_notBB rfl) ?_
       refine st_if (p := ¬ ((digs (bl s)) = true)) (x_move rfl) (fun h490 => ?_) (fun h490 => ?_)
       ·
        refine st_gn 3 56 rfl rfl (by decide) rfl ?_
        refine st_gn 3 56 rfl rfl (by decide) rfl ?_
        refine st_gn 3 56 rfl rfl (by decide) rfl ?_
        refine st_gn 3 56 rfl rfl (by decide) rfl ?_
        refine st_gn 3 56 rfl rfl (by decide) rfl ?_
        refine st_gn 3 56 rfl rfl (by decide) rfl ?_
        refine st_q (v := .bool true) (x_pickT rfl rfl) ?_
        refine st_nil ?_
        refine kn487 _ _ ?_
        refine cndT rfl ?_
        refine seqK fun Q491 kn492 kr493 ke494 => ?_
        refine region ?_
        refine st_q (v := .float .f64 0) (x_assign rfl) ?_
        refine st_q (v := .bool false) (x_assign rfl) ?_
        refine st_nil ?_
        refine kn492 _ _ ?_
        refine ret ?_
        refine kr484 _ _ ?_
        refine leave2 (P := Tryd.prog) (fn := Tryd.f10) (t := 2) (u := 3) (v := .float .f64 0) (v' := .bool false) rfl rfl rfl ?_
        have e0 := numL_plain (s := s) (by omega)
        first | rw [Cut.bad1 hk h46 hno (by assumption)] at e0 | rw [Cut.bad2 hc (by assumption)] at e0 | rw [Cut.bad3 hc (by assumption)] at e0
        exact ⟨by rw [e0]; rfl, hE0⟩
       ·
        refine st_gq 3 56 rfl rfl (by decide) ?_
        refine st_q (v := .string s) (x_move rfl) ?_
        refine st_gq 3 56 rfl rfl (by decide) ?_
        refine st_q (v := .int .i64 ((s.size : Nat) : Int)) (x_lenS rfl Tryd.underlying9 rfl) ?_
        refine st_gq 3 56 rfl rfl (by decide) ?_
        refine st_q (v := .string ((ByteArray.mk #[]))) (x_move rfl) ?_
        refine st_gq 3 56 rfl rfl (by decide) ?_
        refine st_q (v := .int .i64 ((((ByteArray.mk #[])).size : Nat) : Int)) (x_lenS rfl Tryd.underlying9 rfl) ?_
        refine st_gq 3 56 rfl rfl (by decide) ?_
        refine st_q (v := .int .i64 (((s.size + ((ByteArray.mk #[])).size) : Nat) : Int)) (x_addN rfl rfl (by omega)) ?_
        refine st_gq 3 56 rfl rfl (by decide) ?_
        refine st_q (v := .bool (decide (15 < ((s.size + ((ByteArray.mk #[])).size))))) (x_gtrN rfl rfl) ?_
        refine st_q (v := .bool (decide (15 < ((s.size + ((ByteArray.mk #[])).size))))) (x_pickF rfl rfl) ?_
        refine st_nil ?_
        refine kn487 _ _ ?_
        refine cnd (p := 15 < ((s.size + ((ByteArray.mk #[])).size))) rfl (fun h495 => ?_) (fun h495 => ?_)
        ·
         refine seqK fun Q496 kn497 kr498 ke499 => ?_
         refine region ?_
         refine st_q (v := .float .f64 0) (x_assign rfl) ?_
         refine st_q (v := .bool false) (x_assign rfl) ?_
         refine st_nil ?_
         refine kn497 _ _ ?_
         refine ret ?_
         refine kr484 _ _ ?_
         refine leave2 (P := Tryd.prog) (fn := Tryd.f10) (t := 2) (u := 3) (v := .float .f64 0) (v' := .bool false) rfl rfl rfl ?_
         have e0 := numL_plain (s := s) (by omega)
         first | rw [Cut.bad1 hk h46 hno (by assumption)] at e0 | rw [Cut.bad2 hc (by assumption)] at e0 | rw [Cut.bad3 hc (by assumption)] at e0
         exact ⟨by rw [e0]; rfl, hE0⟩
        ·
         refine skip ?_
         refine kn483 _ _ ?_
         refine seqK fun Q500 kn501 kr502 ke503 => ?_
         refine region ?_
         have hdf1 : digs (bl s) = true := Decidable.of_not_not (by assumption)
         have hdf := digs_dig hdf1
         have hdb : ∀ i, i < ((ByteArray.mk #[])).size → dig (ch ((ByteArray.mk #[])) i) := fun i hi => by omega
         have hsz := size_app s ((ByteArray.mk #[]))
         have hR := Cut.good hc hdf1 (.inl (Cut.nodot hno)) (by assumption)
         refine st_q (v := .string s) (x_move rfl) ?_
         refine st_q (v := .string ((ByteArray.mk #[]))) (x_move rfl) ?_
         refine st_q (v := .string ((s ++ ((ByteArray.mk #[]))))) (x_addS rfl rfl (by omega)) ?_
         refine st_c (t_call [.string ((s ++ ((ByteArray.mk #[]))))] T.cf31 rfl rfl) (whole31 ((s ++ ((ByteArray.mk #[])))) _ (dig_app hdf.2 hdb) (by omega)) ?_
         rintro _ _ ⟨rfl, rfl⟩
         refine ⟨_, rfl, ?_⟩
         refine st_q (v := .float .f64 ((fromInt ((((whole (bl ((s ++ ((ByteArray.mk #[])))))) : Nat) : Int))))) (x_convF Tryd.underlying22 Tryd.underlying3 rfl) ?_
         refine st_q (v := .float .f64 ((fromInt ((((whole (bl ((s ++ ((ByteArray.mk #[])))))) : Nat) : Int))))) (x_assign rfl) ?_
         refine st_nil ?_
         refine kn501 _ _ ?_
         refine seqK fun Q504 kn505 kr506 ke507 => ?_
         refine seqK fun Q508 kn509 kr510 ke511 => ?_
         refine region ?_
         refine st_q (v := .string ((ByteArray.mk #[]))) (x_move rfl) ?_
         refine st_q (v := .int .i64 ((((ByteArray.mk #[])).size : Nat) : Int)) (x_lenS rfl Tryd.underlying9 rfl) ?_
         refine st_q (v := .bool (decide (0 < (((ByteArray.mk #[])).size)))) (x_gtrN rfl rfl) ?_
         refine st_nil ?_
         refine kn509 _ _ ?_
         refine cnd (p := 0 < (((ByteArray.mk #[])).size)) rfl (fun h512 => ?_) (fun h512 => ?_)
         ·
          refine seqK fun Q513 kn514 kr515 ke516 => ?_
          refine region ?_
          refine st_q (v := .int .i64 ((1 : Nat) : Int)) (x_assign rfl) ?_
          refine st_nil ?_
          refine kn514 _ _ ?_
          refine seqK fun Q517 kn518 kr519 ke520 => ?_
          refine seqK fun Q521 kn522 kr523 ke524 => ?_
          refine region ?_
          refine st_q (v := .int .i64 ((0 : Nat) : Int)) (x_assign rfl) ?_
          refine st_nil ?_
          refine kn522 _ _ ?_
          refine blockK fun Q525 kn526 kr527 kx528 kb529 => ?_
          refine loopK (α := Nat × Nat) (fun x => [(5, .bool (decide (((ch s 0)) = 45))), (9, .string ((ByteArray.mk #[]))), (10, .float .f64 ((fromInt ((((whole (bl ((s ++ ((ByteArray.mk #[])))))) : Nat) : Int))))), (11, .int .i64 ((x.1 : Nat) : Int)), (12, .int .i64 ((x.2 : Nat) : Int))]) (fun x w530 => w0 = w530 ∧ x.2 ≤ ((ByteArray.mk #[])).size ∧ x.1 = 10 ^ x.2) (fun x => ((ByteArray.mk #[])).size - x.2) (1, 0) ⟨rfl, rfl, rfl, rfl, rfl, trivial⟩ ?_ ?_
          ·
           refine ⟨rfl, ?_⟩
           try dsimp only
           exact ⟨Nat.zero_le _, rfl⟩
          ·
           rintro τ531 ⟨ten, i⟩ w532 ⟨rfl, ⟨hi, hten⟩⟩
           try dsimp only at hi hten
           intro Q533 kn534 kr535 ke536
           refine seqK fun Q537 kn538 kr539 ke540 => ?_
           refine seqK fun Q541 kn542 kr543 ke544 => ?_
           refine region ?_
           refine st_q (v := .int .i64 ((i : Nat) : Int)) (x_move rfl) ?_
           refine st_q (v := .string ((ByteArray.mk #[]))) (x_move rfl) ?_
           refine st_q (v := .int .i64 ((((ByteArray.mk #[])).size : Nat) : Int)) (x_lenS rfl Tryd.underlying9 rfl) ?_
           refine st_q (v := .bool (decide (i < (((ByteArray.mk #[])).size)))) (x_lssN rfl rfl) ?_
           refine st_nil ?_
           refine kn542 _ _ ?_
           refine cnd (p := i < (((ByteArray.mk #[])).size)) rfl (fun h545 => ?_) (fun h545 => ?_)
           ·
            refine skip ?_
            refine kn538 _ _ ?_
            refine seqK fun Q546 kn547 kr548 ke549 => ?_
            refine blockK fun Q550 kn551 kr552 kx553 kb554 => ?_
            refine region ?_
            have h14 : 10 ^ i ≤ 100000000000000 := Nat.le_trans (Nat.pow_le_pow_right (by decide) (show i ≤ 14 by omega)) (by decide)
            refine st_q (v := .int .i64 ((ten : Nat) : Int)) (x_move rfl) ?_
            refine st_q (v := .int .i64 (((10 * ten) : Nat) : Int)) (x_mulN rfl rfl (by omega)) ?_
            refine st_q (v := .int .i64 (((10 * ten) : Nat) : Int)) (x_assign rfl) ?_
            refine st_nil ?_
            refine kn551 _ _ ?_
            refine kn547 _ _ ?_
            refine region ?_
            refine st_q (v := .int .i64 ((i : Nat) : Int)) (x_move rfl) ?_
            refine st_q (v := .int .i64 (((i + 1) : Nat) : Int)) (x_addN rfl rfl (by omega)) ?_
            refine st_q (v := .int .i64 (((i + 1) : Nat) : Int)) (x_assign rfl) ?_
            refine st_nil ?_
            refine kn534 _ ((10 * ten), (i + 1)) _ ⟨rfl, rfl, rfl, rfl, rfl, trivial⟩ ⟨rfl, ?_⟩ ?_
            ·
             try dsimp only
             exact ⟨by omega, by rw [hten, Nat.pow_succ, Nat.mul_comm]⟩
            ·
             (try dsimp only); omega
           ·
            refine exit ?_
            refine ke540 _ _ _ ?_
            refine ke536 _ _ _ ?_
            refine kb529 _ _ ?_
            refine kn518 _ _ ?_
            refine region ?_
            obtain rfl : i = ((ByteArray.mk #[])).size := by omega
            refine st_q (v := .float .f64 ((fromInt ((((whole (bl ((s ++ ((ByteArray.mk #[])))))) : Nat) : Int))))) (x_move rfl) ?_
            refine st_q (v := .int .i64 ((ten : Nat) : Int)) (x_move rfl) ?_
            refine st_q (v := .float .f64 ((fromInt (((ten : Nat) : Int))))) (x_convF Tryd.underlying22 Tryd.underlying3 rfl) ?_
            refine st_q (v := .float .f64 ((numBits (whole (bl (s ++ ((ByteArray.mk #[]))))) ((ByteArray.mk #[])).size))) (x_quoF rfl rfl (by rw [hten]; exact numBits_pos (by omega) (by omega))) ?_
            refine st_q (v := .float .f64 ((numBits (whole (bl (s ++ ((ByteArray.mk #[]))))) ((ByteArray.mk #[])).size))) (x_assign rfl) ?_
            refine st_nil ?_
            refine kn505 _ _ ?_
            refine seqK fun Q555 kn556 kr557 ke558 => ?_
            refine seqK fun Q559 kn560 kr561 ke562 => ?_
            refine region ?_
            refine st_q (v := .bool (decide (((ch s 0)) = 45))) (x_move rfl) ?_
            refine st_nil ?_
            refine kn560 _ _ ?_
            refine cnd (p := ((ch s 0)) = 45) rfl (fun h563 => ?_) (fun h563 => ?_)
            ·
             exact absurd h563 (by omega)
            ·
             refine skip ?_
             refine kn556 _ _ ?_
             refine seqK fun Q564 kn565 kr566 ke567 => ?_
             refine region ?_
             refine st_q (v := .float .f64 ((numBits (whole (bl (s ++ ((ByteArray.mk #[]))))) ((ByteArray.mk #[])).size))) (x_move rfl) ?_
             refine st_q (v := .float .f64 ((numBits (whole (bl (s ++ ((ByteArray.mk #[]))))) ((ByteArray.mk #[])).size))) (x_assign rfl) ?_
             refine st_q (v := .bool true) (x_assign rfl) ?_
             refine st_nil ?_
             refine kn565 _ _ ?_
             refine ret ?_
             refine leave2 (P := Tryd.prog) (fn := Tryd.f10) (t := 2) (u := 3) (v := .float .f64 ((numBits (whole (bl (s ++ ((ByteArray.mk #[]))))) ((ByteArray.mk #[])).size))) (v' := .bool true) rfl rfl rfl ?_
             have e0 := numL_plain (s := s) (by omega)
             rw [hR] at e0
             exact ⟨by rw [e0]; rfl, hE0⟩
         ·
          refine skip ?_
          refine kn505 _ _ ?_
          refine seqK fun Q568 kn569 kr570 ke571 => ?_
          refine seqK fun Q572 kn573 kr574 ke575 => ?_
          refine region ?_
          refine st_q (v := .bool (decide (((ch s 0)) = 45))) (x_move rfl) ?_
          refine st_nil ?_
          refine kn573 _ _ ?_
          refine cnd (p := ((ch s 0)) = 45) rfl (fun h576 => ?_) (fun h576 => ?_)
          ·
           exact absurd h576 (by omega)
          ·
           refine skip ?_
           refine kn569 _ _ ?_
           refine seqK fun Q577 kn578 kr579 ke580 => ?_
           refine region ?_
           refine st_q (v := .float .f64 ((fromInt ((((whole (bl ((s ++ ((ByteArray.mk #[])))))) : Nat) : Int))))) (x_move rfl) ?_
           refine st_q (v := .float .f64 ((fromInt ((((whole (bl ((s ++ ((ByteArray.mk #[])))))) : Nat) : Int))))) (x_assign rfl) ?_
           refine st_q (v := .bool true) (x_assign rfl) ?_
           refine st_nil ?_
           refine kn578 _ _ ?_
           refine ret ?_
           refine leave2 (P := Tryd.prog) (fn := Tryd.f10) (t := 2) (u := 3) (v := .float .f64 ((fromInt ((((whole (bl ((s ++ ((ByteArray.mk #[])))))) : Nat) : Int))))) (v' := .bool true) rfl rfl rfl ?_
           have e0 := numL_plain (s := s) (by omega)
           rw [hR] at e0; rw [show ((ByteArray.mk #[])).size = 0 by omega, numBits_zero] at e0
           exact ⟨by rw [e0]; rfl, hE0⟩
  ·
   refine st_gn 3 17 rfl rfl (by decide) rfl ?_
   refine st_gn 3 17 rfl rfl (by decide) rfl ?_
   refine st_gn 3 17 rfl rfl (by decide) rfl ?_
   refine st_q (v := .bool false) (x_pickF rfl rfl) ?_
   refine st_q (v := .bool false) (x_assign rfl) ?_
   refine st_nil ?_
   refine kn10 _ _ ?_
   refine seqK fun Q581 kn582 kr583 ke584 => ?_
   refine seqK fun Q585 kn586 kr587 ke588 => ?_
   refine region ?_
   refine st_q (v := .bool false) (x_move rfl) ?_
   refine st_nil ?_
   refine kn586 _ _ ?_
   refine cndF rfl ?_
   refine skip ?_
   refine kn582 _ _ ?_
   refine seqK fun Q589 kn590 kr591 ke592 => ?_
   refine region ?_
   refine st_q (v := .int .i64 (-1)) (x_assign rfl) ?_
   refine st_nil ?_
   refine kn590 _ _ ?_
   refine seqK fun Q593 kn594 kr595 ke596 => ?_
   refine seqK fun Q597 kn598 kr599 ke600 => ?_
   refine region ?_
   refine st_q (v := .int .i64 ((0 : Nat) : Int)) (x_assign rfl) ?_
   refine st_nil ?_
   refine kn598 _ _ ?_
   refine blockK fun Q601 kn602 kr603 kx604 kb605 => ?_
   refine loopK (α := Nat × Int) (fun x => [(4, .string s), (5, .bool false), (6, .int .i64 x.2), (7, .int .i64 ((x.1 : Nat) : Int))]) (fun x w606 => w0 = w606 ∧ x.1 ≤ s.size ∧ ((x.2 = -1 ∧ ∀ j, j < x.1 → ch s j ≠ 46) ∨ (0 ≤ x.2 ∧ x.2.toNat < x.1 ∧ ch s x.2.toNat = 46 ∧ ∀ j, j < x.2.toNat → ch s j ≠ 46))) (fun x => s.size - x.1) (0, (-1)) ⟨rfl, rfl, rfl, rfl, trivial⟩ ?_ ?_
   ·
    refine ⟨rfl, ?_⟩
    try dsimp only
    exact ⟨Nat.zero_le _, .inl ⟨rfl, fun j h => by omega⟩⟩
   ·
    rintro τ607 ⟨i, d⟩ w608 ⟨rfl, ⟨hi, hI⟩⟩
    try dsimp only at hi hI
    intro Q609 kn610 kr611 ke612
    refine seqK fun Q613 kn614 kr615 ke616 => ?_
    refine seqK fun Q617 kn618 kr619 ke620 => ?_
    refine region ?_
    refine st_q (v := .int .i64 ((i : Nat) : Int)) (x_move rfl) ?_
    refine st_q (v := .string s) (x_move rfl) ?_
    refine st_q (v := .int .i64 ((s.size : Nat) : Int)) (x_lenS rfl Tryd.underlying9 rfl) ?_
    refine st_q (v := .bool (decide (i < s.size))) (x_lssN rfl rfl) ?_
    refine st_nil ?_
    refine kn618 _ _ ?_
    refine cnd (p := i < s.size) rfl (fun h621 => ?_) (fun h621 => ?_)
    ·
     refine skip ?_
     refine kn614 _ _ ?_
     refine seqK fun Q622 kn623 kr624 ke625 => ?_
     refine blockK fun Q626 kn627 kr628 kx629 kb630 => ?_
     refine seqK fun Q631 kn632 kr633 ke634 => ?_
     refine region ?_
     refine st_q (v := .string s) (x_move rfl) ?_
     refine st_q (v := .int .i64 ((i : Nat) : Int)) (x_move rfl) ?_
     refine st_q (v := .int .u8 (((ch s i) : Nat) : Int)) (x_indexS Tryd.underlying9 rfl rfl (by omega)) ?_
     refine st_q (v := .bool (decide (((ch s i)) = 46))) (x_eqlN rfl rfl) ?_
     refine st_if (p := ((ch s i)) = 46) (x_move rfl) (fun h635 => ?_) (fun h635 => ?_)
     ·
      refine st_gq 4 35 rfl rfl (by decide) ?_
      refine st_q (v := .int .i64 d) (x_move rfl) ?_
      refine st_gq 4 35 rfl rfl (by decide) ?_
      refine st_q (v := .bool (decide (d < 0))) (x_lss rfl rfl) ?_
      refine st_q (v := .bool (decide (d < 0))) (x_pickT rfl rfl) ?_
      refine st_nil ?_
      refine kn632 _ _ ?_
      refine cnd (p := d < 0) rfl (fun h636 => ?_) (fun h636 => ?_)
      ·
       refine region ?_
       refine st_q (v := .int .i64 ((i : Nat) : Int)) (x_move rfl) ?_
       refine st_q (v := .int .i64 ((i : Nat) : Int)) (x_assign rfl) ?_
       refine st_nil ?_
       refine kn627 _ _ ?_
       refine kn623 _ _ ?_
       refine region ?_
       refine st_q (v := .int .i64 ((i : Nat) : Int)) (x_move rfl) ?_
       refine st_q (v := .int .i64 (((i + 1) : Nat) : Int)) (x_addN rfl rfl (by omega)) ?_
       refine st_q (v := .int .i64 (((i + 1) : Nat) : Int)) (x_assign rfl) ?_
       refine st_nil ?_
       refine kn610 _ ((i + 1), ((i : Nat) : Int)) _ ⟨rfl, rfl, rfl, rfl, trivial⟩ ⟨rfl, ?_⟩ ?_
       ·
        try dsimp only
        refine ⟨by omega, .inr ⟨by omega, by omega, by assumption, fun j hj => ?_⟩⟩
        rcases hI with ⟨_, h2⟩ | ⟨h1, _⟩
        · exact h2 j (by omega)
        · omega
       ·
        (try dsimp only); omega
      ·
       refine skip ?_
       refine kn627 _ _ ?_
       refine kn623 _ _ ?_
       refine region ?_
       refine st_q (v := .int .i64 ((i : Nat) : Int)) (x_move rfl) ?_
       refine st_q (v := .int .i64 (((i + 1) : Nat) : Int)) (x_addN rfl rfl (by omega)) ?_
       refine st_q (v := .int .i64 (((i + 1) : Nat) : Int)) (x_assign rfl) ?_
       refine st_nil ?_
       refine kn610 _ ((i + 1), d) _ ⟨rfl, rfl, rfl, rfl, trivial⟩ ⟨rfl, ?_⟩ ?_
       ·
        try dsimp only
        refine ⟨by omega, ?_⟩
        rcases hI with ⟨h1, h2⟩ | ⟨h1, h2, h3, h4⟩
        · refine .inl ⟨h1, fun j hj => ?_⟩
          by_cases e : j = i
          · subst e; first | assumption | (exfalso; omega)
          · exact h2 j (by omega)
        · exact .inr ⟨h1, by omega, h3, h4⟩
       ·
        (try dsimp only); omega
     ·
      refine st_gn 4 35 rfl rfl (by decide) rfl ?_
      refine st_gn 4 35 rfl rfl (by decide) rfl ?_
      refine st_q (v := .bool false) (x_pickF rfl rfl) ?_
      refine st_nil ?_
      refine kn632 _ _ ?_
      refine cndF rfl ?_
      refine skip ?_
      refine kn627 _ _ ?_
      refine kn623 _ _ ?_
      refine region ?_
      refine st_q (v := .int .i64 ((i : Nat) : Int)) (x_move rfl) ?_
      refine st_q (v := .int .i64 (((i + 1) : Nat) : Int)) (x_addN rfl rfl (by omega)) ?_
      refine st_q (v := .int .i64 (((i + 1) : Nat) : Int)) (x_assign rfl) ?_
      refine st_nil ?_
      refine kn610 _ ((i + 1), d) _ ⟨rfl, rfl, rfl, rfl, trivial⟩ ⟨rfl, ?_⟩ ?_
      ·
       try dsimp only
       refine ⟨by omega, ?_⟩
       rcases hI with ⟨h1, h2⟩ | ⟨h1, h2, h3, h4⟩
       · refine .inl ⟨h1, fun j hj => ?_⟩
         by_cases e : j = i
         · subst e; first | assumption | (exfalso; omega)
         · exact h2 j (by omega)
       · exact .inr ⟨h1, by omega, h3, h4⟩
      ·
       (try dsimp only); omega
    ·
     refine exit ?_
     refine ke616 _ _ _ ?_
     refine ke612 _ _ _ ?_
     refine kb605 _ _ ?_
     refine kn594 _ _ ?_
     refine seqK fun Q637 kn638 kr639 ke640 => ?_
     refine region ?_
     refine st_q (v := .string s) (x_move rfl) ?_
     refine st_q (v := .string s) (x_assign rfl) ?_
     refine st_q (v := .string ((ByteArray.mk #[]))) (x_assign rfl) ?_
     refine st_nil ?_
     refine kn638 _ _ ?_
     refine seqK fun Q641 kn642 kr643 ke644 => ?_
     refine seqK fun Q645 kn646 kr647 ke648 => ?_
     refine region ?_
     refine st_q (v := .int .i64 d) (x_move rfl) ?_
     refine st_q (v := .bool (decide (0 ≤ d))) (x_geq rfl rfl) ?_
     refine st_nil ?_
     refine kn646 _ _ ?_
     refine cnd (p := 0 ≤ d) rfl (fun h649 => ?_) (fun h649 => ?_)
     ·
      refine seqK fun Q650 kn651 kr652 ke653 => ?_
      refine regionD1 [] [0, 1, 2, 3, 4, 5, 6, 7, 8] (.one 0 (.one 1 (.one 2 (.one 3 (.one 4 (.one 5 (.one 6 (.one 7 (.one 8 .done))))))))) (by kernel_rfl) (by kernel_rfl) ?_
      intro w654 hx655 hs656
      have hE657 : Below w0.heap.size w0 w654 := hx655.e hE0 (Nat.le_refl _)
      have hz658 := hE657.le
      have hs659 := hx655.size
      have hS660 : Ext w654 w654 := Below.refl _ _
      obtain ⟨k, rfl⟩ : ∃ k : Nat, d = ((k : Nat) : Int) := ⟨d.toNat, by omega⟩
      obtain ⟨hk, h46, hno⟩ : k < s.size ∧ ch s k = 46 ∧ ∀ j, j < k → ch s j ≠ 46 := by rcases hI with ⟨h1, h2⟩ | ⟨h1, h2, h3, h4⟩; omega; exact ⟨by omega, h3, h4⟩
      have hc := Cut.at hk h46 hno
      have hl1 := size_lo (s := s) (k := k) (by omega)
      have hl2 := size_hi s (k + 1)
      refine d_q (v := .string s) rfl rfl (fun _ => x_move rfl) ?_
      refine d_q (v := .int .i64 ((k : Nat) : Int)) rfl rfl (fun _ => x_move rfl) ?_
      refine d_q (v := .string ((s.extract 0 k))) rfl rfl (fun _ => x_sliceSHi Tryd.underlying9 rfl rfl (by omega)) ?_
      refine d_q (v := .string s) rfl rfl (fun _ => x_move rfl) ?_
      refine d_q (v := .int .i64 ((k : Nat) : Int)) rfl rfl (fun _ => x_move rfl) ?_
      refine d_q (v := .int .i64 (((k + 1) : Nat) : Int)) rfl rfl (fun _ => x_addN rfl rfl (by omega)) ?_
      refine d_q (v := .string ((s.extract ((k + 1)) s.size))) rfl rfl (fun _ => x_sliceSLo Tryd.underlying9 rfl rfl (by omega)) ?_
      refine d_q (v := .string ((s.extract 0 k))) rfl rfl (fun _ => x_assign rfl) ?_
      refine d_q (v := .string ((s.extract ((k + 1)) s.size))) rfl rfl (fun _ => x_assign rfl) ?_
      refine d_done ?_
      refine kn651 _ _ ?_
      refine seqK fun Q661 kn662 kr663 ke664 => ?_
      refine region ?_
      refine st_q (v := .string ((s.extract ((k + 1)) s.size))) (x_move rfl) ?_
      refine st_c (t_call [.string ((s.extract ((k + 1)) s.size))] T.cf30 rfl rfl) (digits30 ((s.extract ((k + 1)) s.size)) _ (by simp only [maxLen]; omega)) ?_
      rintro _ _ ⟨rfl, rfl⟩
      refine ⟨_, rfl, ?_⟩
      refine st_q (v := .bool (decide (¬ ((digs (bl ((s.extract ((k + 1)) s.size)))) = true)))) (x_notBB rfl) ?_
      refine st_nil ?_
      refine kn662 _ _ ?_
      refine cnd (p := ¬ ((digs (bl ((s.extract ((k + 1)) s.size)))) = true)) rfl (fun h665 => ?_) (fun h665 => ?_)
      ·
       refine seqK fun Q666 kn667 kr668 ke669 => ?_
       refine region ?_
       refine st_q (v := .float .f64 0) (x_assign rfl) ?_
       refine st_q (v := .bool false) (x_assign rfl) ?_
       refine st_nil ?_
       refine kn667 _ _ ?_
       refine ret ?_
       refine kr643 _ _ ?_
       refine leave2 (P := Tryd.prog) (fn := Tryd.f10) (t := 2) (u := 3) (v := .float .f64 0) (v' := .bool false) rfl rfl rfl ?_
       have e0 := numL_plain (s := s) (by omega)
       first | rw [Cut.bad1 hk h46 hno (by assumption)] at e0 | rw [Cut.bad2 hc (by assumption)] at e0 | rw [Cut.bad3 hc (by assumption)] at e0
       exact ⟨by rw [e0]; rfl, hE657⟩
      ·
       refine skip ?_
       refine kn642 _ _ ?_
       refine seqK fun Q670 kn671 kr672 ke673 => ?_
       refine seqK fun Q674 kn675 kr676 ke677 => ?_
       refine region ?_
       refine st_q (v := .string ((s.extract 0 k))) (x_move rfl) ?_
       refine st_c (t_call [.string ((s.extract 0 k))] T.cf30 rfl rfl) (digits30 ((s.extract 0 k)) _ (by simp only [maxLen]; omega)) ?_
       rintro _ _ ⟨rfl, rfl⟩
       refine ⟨_, rfl, ?_⟩
       refine st_q (v := .bool (decide (¬ ((digs (bl ((s.extract 0 k)))) = true)))) (x_notBB rfl) ?_
       refine st_if (p := ¬ ((digs (bl ((s.extract 0 k)))) = true)) (x_move rfl) (fun h678 => ?_) (fun h678 => ?_)
       ·
        refine st_gn 3 56 rfl rfl (by decide) rfl ?_
        refine st_gn 3 56 rfl rfl (by decide) rfl ?_
        refine st_gn 3 56 rfl rfl (by decide) rfl ?_
        refine st_gn 3 56 rfl rfl (by decide) rfl ?_
        refine st_gn 3 56 rfl rfl (by decide) rfl ?_
        refine st_gn 3 56 rfl rfl (by decide) rfl ?_
        refine st_q (v := .bool true) (x_pickT rfl rfl) ?_
        refine st_nil ?_
        refine kn675 _ _ ?_
        refine cndT rfl ?_
        refine seqK fun Q679 kn680 kr681 ke682 => ?_
        refine region ?_
        refine st_q (v := .float .f64 0) (x_assign rfl) ?_
        refine st_q (v := .bool false) (x_assign rfl) ?_
        refine st_nil ?_
        refine kn680 _ _ ?_
        refine ret ?_
        refine kr672 _ _ ?_
        refine leave2 (P := Tryd.prog) (fn := Tryd.f10) (t := 2) (u := 3) (v := .float .f64 0) (v' := .bool false) rfl rfl rfl ?_
        have e0 := numL_plain (s := s) (by omega)
        first | rw [Cut.bad1 hk h46 hno (by assumption)] at e0 | rw [Cut.bad2 hc (by assumption)] at e0 | rw [Cut.bad3 hc (by assumption)] at e0
        exact ⟨by rw [e0]; rfl, hE657⟩
       ·
        refine st_gq 3 56 rfl rfl (by decide) ?_
        refine st_q (v := .string ((s.extract 0 k))) (x_move rfl) ?_
        refine st_gq 3 56 rfl rfl (by decide) ?_
        refine st_q (v := .int .i64 ((((s.extract 0 k)).size : Nat) : Int)) (x_lenS rfl Tryd.underlying9 rfl) ?_
        refine st_gq 3 56 rfl rfl (by decide) ?_
        refine st_q (v := .string ((s.extract ((k + 1)) s.size))) (x_move rfl) ?_
        refine st_gq 3 56 rfl rfl (by decide) ?_
        refine st_q (v := .int .i64 ((((s.extract ((k + 1)) s.size)).size : Nat) : Int)) (x_lenS rfl Tryd.underlying9 rfl) ?_
        refine st_gq 3 56 rfl rfl (by decide) ?_
        refine st_q (v := .int .i64 (((((s.extract 0 k)).size + ((s.extract ((k + 1)) s.size)).size) : Nat) : Int)) (x_addN rfl rfl (by omega)) ?_
        refine st_gq 3 56 rfl rfl (by decide) ?_
        refine st_q (v := .bool (decide (15 < ((((s.extract 0 k)).size + ((s.extract ((k + 1)) s.size)).size))))) (x_gtrN rfl rfl) ?_
        refine st_q (v := .bool (decide (15 < ((((s.extract 0 k)).size + ((s.extract ((k + 1)) s.size)).size))))) (x_pickF rfl rfl) ?_
        refine st_nil ?_
        refine kn675 _ _ ?_
        refine cnd (p := 15 < ((((s.extract 0 k)).size + ((s.extract ((k + 1)) s.size)).size))) rfl (fun h683 => ?_) (fun h683 => ?_)
        ·
         refine seqK fun Q684 kn685 kr686 ke687 => ?_
         refine region ?_
         refine st_q (v := .float .f64 0) (x_assign rfl) ?_
         refine st_q (v := .bool false) (x_assign rfl) ?_
         refine st_nil ?_
         refine kn685 _ _ ?_
         refine ret ?_
         refine kr672 _ _ ?_
         refine leave2 (P := Tryd.prog) (fn := Tryd.f10) (t := 2) (u := 3) (v := .float .f64 0) (v' := .bool false) rfl rfl rfl ?_
         have e0 := numL_plain (s := s) (by omega)
         first | rw [Cut.bad1 hk h46 hno (by assumption)] at e0 | rw [Cut.bad2 hc (by assumption)] at e0 | rw [Cut.bad3 hc (by assumption)] at e0
         exact ⟨by rw [e0]; rfl, hE657⟩
        ·
         refine skip ?_
         refine kn671 _ _ ?_
         refine seqK fun Q688 kn689 kr690 ke691 => ?_
         refine region ?_
         have hdf1 : digs (bl ((s.extract 0 k))) = true := Decidable.of_not_not (by assumption)
         have hdf := digs_dig hdf1
         have hdb1 : digs (bl ((s.extract ((k + 1)) s.size))) = true := Decidable.of_not_not (by assumption)
         have hdb := digs_dig hdb1
         have hsz := size_app ((s.extract 0 k)) ((s.extract ((k + 1)) s.size))
         have hR := Cut.good hc hdf1 (.inr hdb1) (by assumption)
         refine st_q (v := .string ((s.extract 0 k))) (x_move rfl) ?_
         refine st_q (v := .string ((s.extract ((k + 1)) s.size))) (x_move rfl) ?_
         refine st_q (v := .string ((((s.extract 0 k)) ++ ((s.extract ((k + 1)) s.size))))) (x_addS rfl rfl (by omega)) ?_
         refine st_c (t_call [.string ((((s.extract 0 k)) ++ ((s.extract ((k + 1)) s.size))))] T.cf31 rfl rfl) (whole31 ((((s.extract 0 k)) ++ ((s.extract ((k + 1)) s.size)))) _ (dig_app hdf.2 hdb.2) (by omega)) ?_
         rintro _ _ ⟨rfl, rfl⟩
         refine ⟨_, rfl, ?_⟩
         refine st_q (v := .float .f64 ((fromInt ((((whole (bl ((((s.extract 0 k)) ++ ((s.extract ((k + 1)) s.size)))))) : Nat) : Int))))) (x_convF Tryd.underlying22 Tryd.underlying3 rfl) ?_
         refine st_q (v := .float .f64 ((fromInt ((((whole (bl ((((s.extract 0 k)) ++ ((s.extract ((k + 1)) s.size)))))) : Nat) : Int))))) (x_assign rfl) ?_
         refine st_nil ?_
         refine kn689 _ _ ?_
         refine seqK fun Q692 kn693 kr694 ke695 => ?_
         refine seqK fun Q696 kn697 kr698 ke699 => ?_
         refine region ?_
         refine st_q (v := .string ((s.extract ((k + 1)) s.size))) (x_move rfl) ?_
         refine st_q (v := .int .i64 ((((s.extract ((k + 1)) s.size)).size : Nat) : Int)) (x_lenS rfl Tryd.underlying9 rfl) ?_
         refine st_q (v := .bool (decide (0 < (((s.extract ((k + 1)) s.size)).size)))) (x_gtrN rfl rfl) ?_
         refine st_nil ?_
         refine kn697 _ _ ?_
         refine cnd (p := 0 < (((s.extract ((k + 1)) s.size)).size)) rfl (fun h700 => ?_) (fun h700 => ?_)
         ·
          refine seqK fun Q701 kn702 kr703 ke704 => ?_
          refine region ?_
          refine st_q (v := .int .i64 ((1 : Nat) : Int)) (x_assign rfl) ?_
          refine st_nil ?_
          refine kn702 _ _ ?_
          refine seqK fun Q705 kn706 kr707 ke708 => ?_
          refine seqK fun Q709 kn710 kr711 ke712 => ?_
          refine region ?_
          refine st_q (v := .int .i64 ((0 : Nat) : Int)) (x_assign rfl) ?_
          refine st_nil ?_
          refine kn710 _ _ ?_
          refine blockK fun Q713 kn714 kr715 kx716 kb717 => ?_
          refine loopK (α := Nat × Nat) (fun x => [(5, .bool false), (9, .string ((s.extract ((k + 1)) s.size))), (10, .float .f64 ((fromInt ((((whole (bl ((((s.extract 0 k)) ++ ((s.extract ((k + 1)) s.size)))))) : Nat) : Int))))), (11, .int .i64 ((x.1 : Nat) : Int)), (12, .int .i64 ((x.2 : Nat) : Int))]) (fun x w718 => w654 = w718 ∧ x.2 ≤ ((s.extract ((k + 1)) s.size)).size ∧ x.1 = 10 ^ x.2) (fun x => ((s.extract ((k + 1)) s.size)).size - x.2) (1, 0) ⟨rfl, rfl, rfl, rfl, rfl, trivial⟩ ?_ ?_
          ·
           refine ⟨rfl, ?_⟩
           try dsimp only
           exact ⟨Nat.zero_le _, rfl⟩
          ·
           rintro τ719 ⟨ten, i⟩ w720 ⟨rfl, ⟨hi, hten⟩⟩
           try dsimp only at hi hten
           intro Q721 kn722 kr723 ke724
           refine seqK fun Q725 kn726 kr727 ke728 => ?_
           refine seqK fun Q729 kn730 kr731 ke732 => ?_
           refine region ?_
           refine st_q (v := .int .i64 ((i : Nat) : Int)) (x_move rfl) ?_
           refine st_q (v := .string ((s.extract ((k + 1)) s.size))) (x_move rfl) ?_
           refine st_q (v := .int .i64 ((((s.extract ((k + 1)) s.size)).size : Nat) : Int)) (x_lenS rfl Tryd.underlying9 rfl) ?_
           refine st_q (v := .bool (decide (i < (((s.extract ((k + 1)) s.size)).size)))) (x_lssN rfl rfl) ?_
           refine st_nil ?_
           refine kn730 _ _ ?_
           refine cnd (p := i < (((s.extract ((k + 1)) s.size)).size)) rfl (fun h733 => ?_) (fun h733 => ?_)
           ·
            refine skip ?_
            refine kn726 _ _ ?_
            refine seqK fun Q734 kn735 kr736 ke737 => ?_
            refine blockK fun Q738 kn739 kr740 kx741 kb742 => ?_
            refine region ?_
            have h14 : 10 ^ i ≤ 100000000000000 := Nat.le_trans (Nat.pow_le_pow_right (by decide) (show i ≤ 14 by omega)) (by decide)
            refine st_q (v := .int .i64 ((ten : Nat) : Int)) (x_move rfl) ?_
            refine st_q (v := .int .i64 (((10 * ten) : Nat) : Int)) (x_mulN rfl rfl (by omega)) ?_
            refine st_q (v := .int .i64 (((10 * ten) : Nat) : Int)) (x_assign rfl) ?_
            refine st_nil ?_
            refine kn739 _ _ ?_
            refine kn735 _ _ ?_
            refine region ?_
            refine st_q (v := .int .i64 ((i : Nat) : Int)) (x_move rfl) ?_
            refine st_q (v := .int .i64 (((i + 1) : Nat) : Int)) (x_addN rfl rfl (by omega)) ?_
            refine st_q (v := .int .i64 (((i + 1) : Nat) : Int)) (x_assign rfl) ?_
            refine st_nil ?_
            refine kn722 _ ((10 * ten), (i + 1)) _ ⟨rfl, rfl, rfl, rfl, rfl, trivial⟩ ⟨rfl, ?_⟩ ?_
            ·
             try dsimp only
             exact ⟨by omega, by rw [hten, Nat.pow_succ, Nat.mul_comm]⟩
            ·
             (try dsimp only); omega
           ·
            refine exit ?_
            refine ke728 _ _ _ ?_
            refine ke724 _ _ _ ?_
            refine kb717 _ _ ?_
            refine kn706 _ _ ?_
            refine region ?_
            obtain rfl : i = ((s.extract ((k + 1)) s.size)).size := by omega
            refine st_q (v := .float .f64 ((fromInt ((((whole (bl ((((s.extract 0 k)) ++ ((s.extract ((k + 1)) s.size)))))) : Nat) : Int))))) (x_move rfl) ?_
            refine st_q (v := .int .i64 ((ten : Nat) : Int)) (x_move rfl) ?_
            refine st_q (v := .float .f64 ((fromInt (((ten : Nat) : Int))))) (x_convF Tryd.underlying22 Tryd.underlying3 rfl) ?_
            refine st_q (v := .float .f64 ((numBits (whole (bl (((s.extract 0 k)) ++ ((s.extract ((k + 1)) s.size))))) ((s.extract ((k + 1)) s.size)).size))) (x_quoF rfl rfl (by rw [hten]; exact numBits_pos (by omega) (by omega))) ?_
            refine st_q (v := .float .f64 ((numBits (whole (bl (((s.extract 0 k)) ++ ((s.extract ((k + 1)) s.size))))) ((s.extract ((k + 1)) s.size)).size))) (x_assign rfl) ?_
            refine st_nil ?_
            refine kn693 _ _ ?_
            refine seqK fun Q743 kn744 kr745 ke746 => ?_
            refine seqK fun Q747 kn748 kr749 ke750 => ?_
            refine region ?_
            refine st_q (v := .bool false) (x_move rfl) ?_
            refine st_nil ?_
            refine kn748 _ _ ?_
            refine cndF rfl ?_
            refine skip ?_
            refine kn744 _ _ ?_
            refine seqK fun Q751 kn752 kr753 ke754 => ?_
            refine region ?_
            refine st_q (v := .float .f64 ((numBits (whole (bl (((s.extract 0 k)) ++ ((s.extract ((k + 1)) s.size))))) ((s.extract ((k + 1)) s.size)).size))) (x_move rfl) ?_
            refine st_q (v := .float .f64 ((numBits (whole (bl (((s.extract 0 k)) ++ ((s.extract ((k + 1)) s.size))))) ((s.extract ((k + 1)) s.size)).size))) (x_assign rfl) ?_
            refine st_q (v := .bool true) (x_assign rfl) ?_
            refine st_nil ?_
            refine kn752 _ _ ?_
            refine ret ?_
            refine leave2 (P := Tryd.prog) (fn := Tryd.f10) (t := 2) (u := 3) (v := .float .f64 ((numBits (whole (bl (((s.extract 0 k)) ++ ((s.extract ((k + 1)) s.size))))) ((s.extract ((k + 1)) s.size)).size))) (v' := .bool true) rfl rfl rfl ?_
            have e0 := numL_plain (s := s) (by omega)
            rw [hR] at e0
            exact ⟨by rw [e0]; rfl, hE657⟩
         ·
          refine skip ?_
          refine kn693 _ _ ?_
          refine seqK fun Q755 kn756 kr757 ke758 => ?_
          refine seqK fun Q759 kn760 kr761 ke762 => ?_
          refine region ?_
          refine st_q (v := .bool false) (x_move rfl) ?_
          refine st_nil ?_
          refine kn760 _ _ ?_
          refine cndF rfl ?_
          refine skip ?_
          refine kn756 _ _ ?_
          refine seqK fun Q763 kn764 kr765 ke766 => ?_
          refine region ?_
          refine st_q (v := .float .f64 ((fromInt ((((whole (bl ((((s.extract 0 k)) ++ ((s.extract ((k + 1)) s.size)))))) : Nat) : Int))))) (x_move rfl) ?_
          refine st_q (v := .float .f64 ((fromInt ((((whole (bl ((((s.extract 0 k)) ++ ((s.extract ((k + 1)) s.size)))))) : Nat) : Int))))) (x_assign rfl) ?_
          refine st_q (v := .bool true) (x_assign rfl) ?_
          refine st_nil ?_
          refine kn764 _ _ ?_
          refine ret ?_
          refine leave2 (P := Tryd.prog) (fn := Tryd.f10) (t := 2) (u := 3) (v := .float .f64 ((fromInt ((((whole (bl ((((s.extract 0 k)) ++ ((s.extract ((k + 1)) s.size)))))) : Nat) : Int))))) (v' := .bool true) rfl rfl rfl ?_
          have e0 := numL_plain (s := s) (by omega)
          rw [hR] at e0; rw [show ((s.extract ((k + 1)) s.size)).size = 0 by omega, numBits_zero] at e0
          exact ⟨by rw [e0]; rfl, hE657⟩
     ·
      refine skip ?_
      refine kn642 _ _ ?_
      refine seqK fun Q767 kn768 kr769 ke770 => ?_
      refine seqK fun Q771 kn772 kr773 ke774 => ?_
      refine region ?_
      have hno : ∀ j, j < s.size → ch s j ≠ 46 := by rcases hI with ⟨h1, h2⟩ | ⟨h1, _⟩; exact fun j hj => h2 j (by omega); omega
      have hc := Cut.no hno
      have hl2 : (ByteArray.mk #[]).size = 0 := rfl
      refine st_q (v := .string s) (x_move rfl) ?_
      refine st_c (t_call [.string s] T.cf30 rfl rfl) (digits30 s _ (by simp only [maxLen]; omega)) ?_
      rintro _ _ ⟨rfl, rfl⟩
      refine ⟨_, rfl, ?_⟩
      refine st_q (v := .bool (decide (¬ ((digs (bl s)) = true)))) (x_notBB rfl) ?_
      refine st_if (p := ¬ ((digs (bl s)) = true)) (x_move rfl) (fun h775 => ?_) (fun h775 => ?_)
      ·
       refine st_gn 3 56 rfl rfl (by decide) rfl ?_
       refine st_gn 3 56 rfl rfl (by decide) rfl ?_
       refine st_gn 3 56 rfl rfl (by decide) rfl ?_
       refine st_gn 3 56 rfl rfl (by decide) rfl ?_
       refine st_gn 3 56 rfl rfl (by decide) rfl ?_
       refine st_gn 3 56 rfl rfl (by decide) rfl ?_
       refine st_q (v := .bool true) (x_pickT rfl rfl) ?_
       refine st_nil ?_
       refine kn772 _ _ ?_
       refine cndT rfl ?_
       refine seqK fun Q776 kn777 kr778 ke779 => ?_
       refine region ?_
       refine st_q (v := .float .f64 0) (x_assign rfl) ?_
       refine st_q (v := .bool false) (x_assign rfl) ?_
       refine st_nil ?_
       refine kn777 _ _ ?_
       refine ret ?_
       refine kr769 _ _ ?_
       refine leave2 (P := Tryd.prog) (fn := Tryd.f10) (t := 2) (u := 3) (v := .float .f64 0) (v' := .bool false) rfl rfl rfl ?_
       have e0 := numL_plain (s := s) (by omega)
       first | rw [Cut.bad1 hk h46 hno (by assumption)] at e0 | rw [Cut.bad2 hc (by assumption)] at e0 | rw [Cut.bad3 hc (by assumption)] at e0
       exact ⟨by rw [e0]; rfl, hE0⟩
      ·
       refine st_gq 3 56 rfl rfl (by decide) ?_
       refine st_q (v := .string s) (x_move rfl) ?_
       refine st_gq 3 56 rfl rfl (by decide) ?_
       refine st_q (v := .int .i64 ((s.size : Nat) : Int)) (x_lenS rfl Tryd.underlying9 rfl) ?_
       refine st_gq 3 56 rfl rfl (by decide) ?_
       refine st_q (v := .string ((ByteArray.mk #[]))) (x_move rfl) ?_
       refine st_gq 3 56 rfl rfl (by decide) ?_
       refine st_q (v := .int .i64 ((((ByteArray.mk #[])).size : Nat) : Int)) (x_lenS rfl Tryd.underlying9 rfl) ?_
       refine st_gq 3 56 rfl rfl (by decide) ?_
       refine st_q (v := .int .i64 (((s.size + ((ByteArray.mk #[])).size) : Nat) : Int)) (x_addN rfl rfl (by omega)) ?_
       refine st_gq 3 56 rfl rfl (by decide) ?_
       refine st_q (v := .bool (decide (15 < ((s.size + ((ByteArray.mk #[])).size))))) (x_gtrN rfl rfl) ?_
       refine st_q (v := .bool (decide (15 < ((s.size + ((ByteArray.mk #[])).size))))) (x_pickF rfl rfl) ?_
       refine st_nil ?_
       refine kn772 _ _ ?_
       refine cnd (p := 15 < ((s.size + ((ByteArray.mk #[])).size))) rfl (fun h780 => ?_) (fun h780 => ?_)
       ·
        refine seqK fun Q781 kn782 kr783 ke784 => ?_
        refine region ?_
        refine st_q (v := .float .f64 0) (x_assign rfl) ?_
        refine st_q (v := .bool false) (x_assign rfl) ?_
        refine st_nil ?_
        refine kn782 _ _ ?_
        refine ret ?_
        refine kr769 _ _ ?_
        refine leave2 (P := Tryd.prog) (fn := Tryd.f10) (t := 2) (u := 3) (v := .float .f64 0) (v' := .bool false) rfl rfl rfl ?_
        have e0 := numL_plain (s := s) (by omega)
        first | rw [Cut.bad1 hk h46 hno (by assumption)] at e0 | rw [Cut.bad2 hc (by assumption)] at e0 | rw [Cut.bad3 hc (by assumption)] at e0
        exact ⟨by rw [e0]; rfl, hE0⟩
       ·
        refine skip ?_
        refine kn768 _ _ ?_
        refine seqK fun Q785 kn786 kr787 ke788 => ?_
        refine region ?_
        have hdf1 : digs (bl s) = true := Decidable.of_not_not (by assumption)
        have hdf := digs_dig hdf1
        have hdb : ∀ i, i < ((ByteArray.mk #[])).size → dig (ch ((ByteArray.mk #[])) i) := fun i hi => by omega
        have hsz := size_app s ((ByteArray.mk #[]))
        have hR := Cut.good hc hdf1 (.inl (Cut.nodot hno)) (by assumption)
        refine st_q (v := .string s) (x_move rfl) ?_
        refine st_q (v := .string ((ByteArray.mk #[]))) (x_move rfl) ?_
        refine st_q (v := .string ((s ++ ((ByteArray.mk #[]))))) (x_addS rfl rfl (by omega)) ?_
        refine st_c (t_call [.string ((s ++ ((ByteArray.mk #[]))))] T.cf31 rfl rfl) (whole31 ((s ++ ((ByteArray.mk #[])))) _ (dig_app hdf.2 hdb) (by omega)) ?_
        rintro _ _ ⟨rfl, rfl⟩
        refine ⟨_, rfl, ?_⟩
        refine st_q (v := .float .f64 ((fromInt ((((whole (bl ((s ++ ((ByteArray.mk #[])))))) : Nat) : Int))))) (x_convF Tryd.underlying22 Tryd.underlying3 rfl) ?_
        refine st_q (v := .float .f64 ((fromInt ((((whole (bl ((s ++ ((ByteArray.mk #[])))))) : Nat) : Int))))) (x_assign rfl) ?_
        refine st_nil ?_
        refine kn786 _ _ ?_
        refine seqK fun Q789 kn790 kr791 ke792 => ?_
        refine seqK fun Q793 kn794 kr795 ke796 => ?_
        refine region ?_
        refine st_q (v := .string ((ByteArray.mk #[]))) (x_move rfl) ?_
        refine st_q (v := .int .i64 ((((ByteArray.mk #[])).size : Nat) : Int)) (x_lenS rfl Tryd.underlying9 rfl) ?_
        refine st_q (v := .bool (decide (0 < (((ByteArray.mk #[])).size)))) (x_gtrN rfl rfl) ?_
        refine st_nil ?_
        refine kn794 _ _ ?_
        refine cnd (p := 0 < (((ByteArray.mk #[])).size)) rfl (fun h797 => ?_) (fun h797 => ?_)
        ·
         refine seqK fun Q798 kn799 kr800 ke801 => ?_
         refine region ?_
         refine st_q (v := .int .i64 ((1 : Nat) : Int)) (x_assign rfl) ?_
         refine st_nil ?_
         refine kn799 _ _ ?_
         refine seqK fun Q802 kn803 kr804 ke805 => ?_
         refine seqK fun Q806 kn807 kr808 ke809 => ?_
         refine region ?_
         refine st_q (v := .int .i64 ((0 : Nat) : Int)) (x_assign rfl) ?_
         refine st_nil ?_
         refine kn807 _ _ ?_
         refine blockK fun Q810 kn811 kr812 kx813 kb814 => ?_
         refine loopK (α := Nat × Nat) (fun x => [(5, .bool false), (9, .string ((ByteArray.mk #[]))), (10, .float .f64 ((fromInt ((((whole (bl ((s ++ ((ByteArray.mk #[])))))) : Nat) : Int))))), (11, .int .i64 ((x.1 : Nat) : Int)), (12, .int .i64 ((x.2 : Nat) : Int))]) (fun x w815 => w0 = w815 ∧ x.2 ≤ ((ByteArray.mk #[])).size ∧ x.1 = 10 ^ x.2) (fun x => ((ByteArray.mk #[])).size - x.2) (1, 0) ⟨rfl, rfl, rfl, rfl, rfl, trivial⟩ ?_ ?_
         ·
          refine ⟨rfl, ?_⟩
          try dsimp only
          exact ⟨Nat.zero_le _, rfl⟩
         ·
          rintro τ816 ⟨ten, i⟩ w817 ⟨rfl, ⟨hi, hten⟩⟩
          try dsimp only at hi hten
          intro Q818 kn819 kr820 ke821
          refine seqK fun Q822 kn823 kr824 ke825 => ?_
          refine seqK fun Q826 kn827 kr828 ke829 => ?_
          refine region ?_
          refine st_q (v := .int .i64 ((i : Nat) : Int)) (x_move rfl) ?_
          refine st_q (v := .string ((ByteArray.mk #[]))) (x_move rfl) ?_
          refine st_q (v := .int .i64 ((((ByteArray.mk #[])).size : Nat) : Int)) (x_lenS rfl Tryd.underlying9 rfl) ?_
          refine st_q (v := .bool (decide (i < (((ByteArray.mk #[])).size)))) (x_lssN rfl rfl) ?_
          refine st_nil ?_
          refine kn827 _ _ ?_
          refine cnd (p := i < (((ByteArray.mk #[])).size)) rfl (fun h830 => ?_) (fun h830 => ?_)
          ·
           refine skip ?_
           refine kn823 _ _ ?_
           refine seqK fun Q831 kn832 kr833 ke834 => ?_
           refine blockK fun Q835 kn836 kr837 kx838 kb839 => ?_
           refine region ?_
           have h14 : 10 ^ i ≤ 100000000000000 := Nat.le_trans (Nat.pow_le_pow_right (by decide) (show i ≤ 14 by omega)) (by decide)
           refine st_q (v := .int .i64 ((ten : Nat) : Int)) (x_move rfl) ?_
           refine st_q (v := .int .i64 (((10 * ten) : Nat) : Int)) (x_mulN rfl rfl (by omega)) ?_
           refine st_q (v := .int .i64 (((10 * ten) : Nat) : Int)) (x_assign rfl) ?_
           refine st_nil ?_
           refine kn836 _ _ ?_
           refine kn832 _ _ ?_
           refine region ?_
           refine st_q (v := .int .i64 ((i : Nat) : Int)) (x_move rfl) ?_
           refine st_q (v := .int .i64 (((i + 1) : Nat) : Int)) (x_addN rfl rfl (by omega)) ?_
           refine st_q (v := .int .i64 (((i + 1) : Nat) : Int)) (x_assign rfl) ?_
           refine st_nil ?_
           refine kn819 _ ((10 * ten), (i + 1)) _ ⟨rfl, rfl, rfl, rfl, rfl, trivial⟩ ⟨rfl, ?_⟩ ?_
           ·
            try dsimp only
            exact ⟨by omega, by rw [hten, Nat.pow_succ, Nat.mul_comm]⟩
           ·
            (try dsimp only); omega
          ·
           refine exit ?_
           refine ke825 _ _ _ ?_
           refine ke821 _ _ _ ?_
           refine kb814 _ _ ?_
           refine kn803 _ _ ?_
           refine region ?_
           obtain rfl : i = ((ByteArray.mk #[])).size := by omega
           refine st_q (v := .float .f64 ((fromInt ((((whole (bl ((s ++ ((ByteArray.mk #[])))))) : Nat) : Int))))) (x_move rfl) ?_
           refine st_q (v := .int .i64 ((ten : Nat) : Int)) (x_move rfl) ?_
           refine st_q (v := .float .f64 ((fromInt (((ten : Nat) : Int))))) (x_convF Tryd.underlying22 Tryd.underlying3 rfl) ?_
           refine st_q (v := .float .f64 ((numBits (whole (bl (s ++ ((ByteArray.mk #[]))))) ((ByteArray.mk #[])).size))) (x_quoF rfl rfl (by rw [hten]; exact numBits_pos (by omega) (by omega))) ?_
           refine st_q (v := .float .f64 ((numBits (whole (bl (s ++ ((ByteArray.mk #[]))))) ((ByteArray.mk #[])).size))) (x_assign rfl) ?_
           refine st_nil ?_
           refine kn790 _ _ ?_
           refine seqK fun Q840 kn841 kr842 ke843 => ?_
           refine seqK fun Q844 kn845 kr846 ke847 => ?_
           refine region ?_
           refine st_q (v := .bool false) (x_move rfl) ?_
           refine st_nil ?_
           refine kn845 _ _ ?_
           refine cndF rfl ?_
           refine skip ?_
           refine kn841 _ _ ?_
           refine seqK fun Q848 kn849 kr850 ke851 => ?_
           refine region ?_
           refine st_q (v := .float .f64 ((numBits (whole (bl (s ++ ((ByteArray.mk #[]))))) ((ByteArray.mk #[])).size))) (x_move rfl) ?_
           refine st_q (v := .float .f64 ((numBits (whole (bl (s ++ ((ByteArray.mk #[]))))) ((ByteArray.mk #[])).size))) (x_assign rfl) ?_
           refine st_q (v := .bool true) (x_assign rfl) ?_
           refine st_nil ?_
           refine kn849 _ _ ?_
           refine ret ?_
           refine leave2 (P := Tryd.prog) (fn := Tryd.f10) (t := 2) (u := 3) (v := .float .f64 ((numBits (whole (bl (s ++ ((ByteArray.mk #[]))))) ((ByteArray.mk #[])).size))) (v' := .bool true) rfl rfl rfl ?_
           have e0 := numL_plain (s := s) (by omega)
           rw [hR] at e0
           exact ⟨by rw [e0]; rfl, hE0⟩
        ·
         refine skip ?_
         refine kn790 _ _ ?_
         refine seqK fun Q852 kn853 kr854 ke855 => ?_
         refine seqK fun Q856 kn857 kr858 ke859 => ?_
         refine region ?_
         refine st_q (v := .bool false) (x_move rfl) ?_
         refine st_nil ?_
         refine kn857 _ _ ?_
         refine cndF rfl ?_
         refine skip ?_
         refine kn853 _ _ ?_
         refine seqK fun Q860 kn861 kr862 ke863 => ?_
         refine region ?_
         refine st_q (v := .float .f64 ((fromInt ((((whole (bl ((s ++ ((ByteArray.mk #[])))))) : Nat) : Int))))) (x_move rfl) ?_
         refine st_q (v := .float .f64 ((fromInt ((((whole (bl ((s ++ ((ByteArray.mk #[])))))) : Nat) : Int))))) (x_assign rfl) ?_
         refine st_q (v := .bool true) (x_assign rfl) ?_
         refine st_nil ?_
         refine kn861 _ _ ?_
         refine ret ?_
         refine leave2 (P := Tryd.prog) (fn := Tryd.f10) (t := 2) (u := 3) (v := .float .f64 ((fromInt ((((whole (bl ((s ++ ((ByteArray.mk #[])))))) : Nat) : Int))))) (v' := .bool true) rfl rfl rfl ?_
         have e0 := numL_plain (s := s) (by omega)
         rw [hR] at e0; rw [show ((ByteArray.mk #[])).size = 0 by omega, numBits_zero] at e0
         exact ⟨by rw [e0]; rfl, hE0⟩

end Go.Proofs.YtegpcbckiehleaaDoor
