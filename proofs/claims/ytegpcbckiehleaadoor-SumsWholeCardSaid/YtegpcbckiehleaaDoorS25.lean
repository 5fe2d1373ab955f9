import Derived.Test.YtegpcbckiehleaaDoorS12
import Derived.Test.YtegpcbckiehleaaDoorSRank
import Derived.Test.YtegpcbckiehleaaDoorSDig
namespace Go.Proofs.YtegpcbckiehleaaDoor
open Go.RowKit Go.Eng Go.OrdPure Go.Flt
theorem T.cf41 : CF Tryd.prog 41 := fun _ _ => by kernel_rfl
theorem T.cf46 : CF Tryd.prog 46 := fun _ _ => by kernel_rfl
theorem T.cf34 : CF Tryd.prog 34 := fun _ _ => by kernel_rfl
theorem T.cf35 : CF Tryd.prog 35 := fun _ _ => by kernel_rfl
theorem T.cf22 : CF Tryd.prog 22 := fun _ _ => by kernel_rfl
theorem T.zv44 : ZV Tryd.prog 44 (.agg #[.slice none 0 0, .int .i64 ((0 : Nat) : Int), .int .i64 ((0 : Nat) : Int), .float .f64 0, .float .f64 0, .float .f64 0, .float .f64 0, .float .f64 0]) := fun _ => by kernel_rfl
theorem T.ag44 : AG Tryd.prog 44 8 := fun _ => ⟨by kernel_rfl, by kernel_rfl⟩
theorem T.sz44 : SZ Tryd.prog 44 8 := fun _ => by kernel_rfl
theorem T.cf49 : CF Tryd.prog 49 := fun _ _ => by kernel_rfl
theorem T.cf36 : CF Tryd.prog 36 := fun _ _ => by kernel_rfl
theorem T.cf28 : CF Tryd.prog 28 := fun _ _ => by kernel_rfl
theorem T.cf38 : CF Tryd.prog 38 := fun _ _ => by kernel_rfl
theorem T.cf37 : CF Tryd.prog 37 := fun _ _ => by kernel_rfl
theorem T.sl95 : SL Tryd.prog 95 62 1 16 (.complex .f64 0 0) := sl_mk Tryd.underlying95 (by kernel_rfl) rfl (by decide)
theorem T.cf12 : CF Tryd.prog 12 := fun _ _ => by kernel_rfl
theorem T.cf20 : CF Tryd.prog 20 := fun _ _ => by kernel_rfl
theorem T.cf18 : CF Tryd.prog 18 := fun _ _ => by kernel_rfl
theorem T.cf14 : CF Tryd.prog 14 := fun _ _ => by kernel_rfl
theorem T.cf17 : CF Tryd.prog 17 := fun _ _ => by kernel_rfl
theorem T.cf23 : CF Tryd.prog 23 := fun _ _ => by kernel_rfl

set_option maxHeartbeats 4000000 in
theorem digits23s (n : Nat) (w0 : World) (hn : n < 1000000000000000) (ih : ∀ m, m < n → ∀ w : World, Calls Tryd.prog 23 #[.int .i64 ((m : Nat) : Int)] w fun e w' => e = .returned (.string (dg m)) ∧ Ext w w') : Calls Tryd.prog 23 #[.int .i64 ((n : Nat) : Int)] w0 fun e w' => e = .returned (.string (dg n)) ∧ Ext w0 w' := by
  have hE0 : Below w0.heap.size w0 w0 := Below.refl _ _
  have hz0 := hE0.le
  refine enter Tryd.func23 rfl 20 Tryd.ntmps23 rfl ?_
  refine seqK fun Q1 kn2 kr3 ke4 => ?_
  refine region ?_
  refine st_q (v := .string ((ByteArray.mk #[]))) (x_assign rfl) ?_
  refine st_nil ?_
  refine kn2 _ _ ?_
  refine seqK fun Q5 kn6 kr7 ke8 => ?_
  refine seqK fun Q9 kn10 kr11 ke12 => ?_
  refine region ?_
  refine st_q (v := .int .i64 ((n : Nat) : Int)) (x_move rfl) ?_
  refine st_q (v := .bool (decide (n < 10))) (x_lssN rfl rfl) ?_
  refine st_nil ?_
  refine kn10 _ _ ?_
  refine cnd (p := n < 10) rfl (fun h13 => ?_) (fun h13 => ?_)
  ·
   refine seqK fun Q14 kn15 kr16 ke17 => ?_
   refine region ?_
   refine st_q (v := .int .i64 ((n : Nat) : Int)) (x_move rfl) ?_
   refine st_q (v := .int .i64 (((48 + n) : Nat) : Int)) (x_addN rfl rfl (by omega)) ?_
   refine st_q (v := .int .u8 (((48 + n) : Nat) : Int)) (x_conv Tryd.underlying5 Tryd.underlying3 rfl (.inl (by omega))) ?_
   refine st_e (e_buildSlice (cs := [.int .u8 (((48 + n) : Nat) : Int)]) (e := 5) (fun _ => by kernel_rfl) ?_)
   intro w18 hA19
   have hx20 := hA19.ext
   have hs21 := hA19.size
   have hB22 : Blk w18.heap w0.heap.size [.int .u8 (((48 + n) : Nat) : Int)] 5 := hA19.new
   have hE23 : Below w0.heap.size w0 w18 := hx20.e hE0 (Nat.le_refl _)
   have hz24 := hE23.le
   have hs25 := hx20.size
   refine st_q (v := .string ((b1 ((48 + n))))) (x_convB1 Tryd.underlying94 Tryd.underlying5 Tryd.underlying9 rfl (hB22.one 0 rfl)) ?_
   refine st_q (v := .string ((b1 ((48 + n))))) (x_assign rfl) ?_
   refine st_nil ?_
   refine kn15 _ _ ?_
   refine ret ?_
   refine kr7 _ _ ?_
   refine leave1 (P := Tryd.prog) (fn := Tryd.f23) (t := 2) (v := .string ((b1 ((48 + n))))) rfl rfl ?_
   exact ⟨by rw [dg_lt (n := n) (by omega)], hE23⟩
  ·
   refine skip ?_
   refine kn6 _ _ ?_
   refine seqK fun Q26 kn27 kr28 ke29 => ?_
   refine regionD1 [] [0, 1, 3, 4, 5, 6, 9, 10] (.one 0 (.one 1 (.one 3 (.one 4 (.one 5 (.one 6 (.two 2 (.one 7 (.one 8 (.one 9 (.one 10 .done)))) 7 (.two 2 (.one 8 (.one 9 (.one 10 .done))) 8 (.one 2 (.one 9 (.one 10 .done))))))))))) (by kernel_rfl) (by kernel_rfl) ?_
   intro w30 hx31 hs32
   have hE33 : Below w0.heap.size w0 w30 := hx31.e hE0 (Nat.le_refl _)
   have hz34 := hE33.le
   have hs35 := hx31.size
   have hS36 : Ext w30 w30 := Below.refl _ _
   refine d_q (v := .int .i64 ((n : Nat) : Int)) rfl rfl (fun _ => x_move rfl) ?_
   refine d_q (v := .int .i64 (((n / 10) : Nat) : Int)) rfl rfl (fun _ => x_quoN rfl rfl (by omega) (by omega)) ?_
   refine d_q (v := .int .i64 ((n : Nat) : Int)) rfl rfl (fun _ => x_move rfl) ?_
   refine d_q (v := .int .i64 (((n % 10) : Nat) : Int)) rfl rfl (fun _ => x_remN rfl rfl (by omega)) ?_
   refine d_q (v := .int .i64 (((48 + (n % 10)) : Nat) : Int)) rfl rfl (fun _ => x_addN rfl rfl (by omega)) ?_
   refine d_q (v := .int .u8 (((48 + (n % 10)) : Nat) : Int)) rfl rfl (fun _ => x_conv Tryd.underlying5 Tryd.underlying3 rfl (.inl (by omega))) ?_
   refine d_two ?_ ?_
   ·
    refine id (d_c' rfl rfl (t_call [.int .i64 (((n / 10) : Nat) : Int)] T.cf23 rfl rfl) (ih ((n / 10)) (by omega) _) ?_)
    rintro _ w37 ⟨rfl, hx38⟩
    refine ⟨_, rfl, ?_⟩
    have hE39 : Below w0.heap.size w0 w37 := hx38.e hE33 (Nat.le_refl _)
    have hz40 := hE39.le
    have hs41 := hx38.size
    have hS42 := hS36.trans (hx38.mono hS36.size)
    refine ⟨fun _ => hS42, ?_⟩
    refine d_e (by decide) (d_e' rfl rfl (e_buildSlice (cs := [.int .u8 (((48 + (n % 10)) : Nat) : Int)]) (e := 5) (fun _ => by kernel_rfl) ?_))
    intro w43 hA44
    have hx45 := hA44.ext
    have hs46 := hA44.size
    have hB47 : Blk w43.heap w37.heap.size [.int .u8 (((48 + (n % 10)) : Nat) : Int)] 5 := hA44.new
    have hE48 : Below w0.heap.size w0 w43 := hx45.e hE39 (Nat.le_refl _)
    have hz49 := hE48.le
    have hs50 := hx45.size
    have hS51 := hS42.trans (hx45.mono hS42.size)
    refine ⟨fun _ => hS51, ?_⟩
    refine d_e (by decide) (d_e' rfl rfl (eff_ex (x_convB1 Tryd.underlying94 Tryd.underlying5 Tryd.underlying9 rfl (hB47.one 0 rfl)) ?_))
    have hS52 := hS51
    refine ⟨fun _ => hS52, ?_⟩
    refine d_q (v := .string ((((dg ((n / 10)))) ++ ((b1 ((48 + (n % 10)))))))) rfl rfl (fun _ => x_addS rfl rfl (by have h1 := dg_size 14 (n / 10) (by omega); have h2 : (b1 (48 + n % 10)).size = 1 := rfl; omega)) ?_
    refine d_q (v := .string ((((dg ((n / 10)))) ++ ((b1 ((48 + (n % 10)))))))) rfl rfl (fun _ => x_assign rfl) ?_
    refine d_done ?_
    refine kn27 _ _ ?_
    refine ret ?_
    refine leave1 (P := Tryd.prog) (fn := Tryd.f23) (t := 2) (v := .string ((((dg ((n / 10)))) ++ ((b1 ((48 + (n % 10)))))))) rfl rfl ?_
    exact ⟨by rw [dg_ge (n := n) (by omega)], hE48⟩
   ·
    refine id (d_e' rfl rfl (e_buildSlice (cs := [.int .u8 (((48 + (n % 10)) : Nat) : Int)]) (e := 5) (fun _ => by kernel_rfl) ?_))
    intro w53 hA54
    have hx55 := hA54.ext
    have hs56 := hA54.size
    have hB57 : Blk w53.heap w30.heap.size [.int .u8 (((48 + (n % 10)) : Nat) : Int)] 5 := hA54.new
    have hE58 : Below w0.heap.size w0 w53 := hx55.e hE33 (Nat.le_refl _)
    have hz59 := hE58.le
    have hs60 := hx55.size
    have hS61 := hS36.trans (hx55.mono hS36.size)
    refine ⟨fun _ => hS61, ?_⟩
    refine d_two ?_ ?_
    ·
     refine id (d_c' rfl rfl (t_call [.int .i64 (((n / 10) : Nat) : Int)] T.cf23 rfl rfl) (ih ((n / 10)) (by omega) _) ?_)
     rintro _ w62 ⟨rfl, hx63⟩
     refine ⟨_, rfl, ?_⟩
     have hB64 := hB57.ext hx63
     have hE65 : Below w0.heap.size w0 w62 := hx63.e hE58 (Nat.le_refl _)
     have hz66 := hE65.le
     have hs67 := hx63.size
     have hS68 := hS61.trans (hx63.mono hS61.size)
     refine ⟨fun _ => hS68, ?_⟩
     refine d_e (by decide) (d_e' rfl rfl (eff_ex (x_convB1 Tryd.underlying94 Tryd.underlying5 Tryd.underlying9 rfl (hB64.one 0 rfl)) ?_))
     have hS69 := hS68
     refine ⟨fun _ => hS69, ?_⟩
     refine d_q (v := .string ((((dg ((n / 10)))) ++ ((b1 ((48 + (n % 10)))))))) rfl rfl (fun _ => x_addS rfl rfl (by have h1 := dg_size 14 (n / 10) (by omega); have h2 : (b1 (48 + n % 10)).size = 1 := rfl; omega)) ?_
     refine d_q (v := .string ((((dg ((n / 10)))) ++ ((b1 ((48 + (n % 10)))))))) rfl rfl (fun _ => x_assign rfl) ?_
     refine d_done ?_
     refine kn27 _ _ ?_
     refine ret ?_
     refine leave1 (P := Tryd.prog) (fn := Tryd.f23) (t := 2) (v := .string ((((dg ((n / 10)))) ++ ((b1 ((48 + (n % 10)))))))) rfl rfl ?_
     exact ⟨by rw [dg_ge (n := n) (by omega)], hE65⟩
    ·
     refine id (d_e' rfl rfl (eff_ex (x_convB1 Tryd.underlying94 Tryd.underlying5 Tryd.underlying9 rfl (hB57.one 0 rfl)) ?_))
     have hS70 := hS61
     refine ⟨fun _ => hS70, ?_⟩
     refine d_e (by decide) (d_c' rfl rfl (t_call [.int .i64 (((n / 10) : Nat) : Int)] T.cf23 rfl rfl) (ih ((n / 10)) (by omega) _) ?_)
     rintro _ w71 ⟨rfl, hx72⟩
     refine ⟨_, rfl, ?_⟩
     have hB73 := hB57.ext hx72
     have hE74 : Below w0.heap.size w0 w71 := hx72.e hE58 (Nat.le_refl _)
     have hz75 := hE74.le
     have hs76 := hx72.size
     have hS77 := hS70.trans (hx72.mono hS70.size)
     refine ⟨fun _ => hS77, ?_⟩
     refine d_q (v := .string ((((dg ((n / 10)))) ++ ((b1 ((48 + (n % 10)))))))) rfl rfl (fun _ => x_addS rfl rfl (by have h1 := dg_size 14 (n / 10) (by omega); have h2 : (b1 (48 + n % 10)).size = 1 := rfl; omega)) ?_
     refine d_q (v := .string ((((dg ((n / 10)))) ++ ((b1 ((48 + (n % 10)))))))) rfl rfl (fun _ => x_assign rfl) ?_
     refine d_done ?_
     refine kn27 _ _ ?_
     refine ret ?_
     refine leave1 (P := Tryd.prog) (fn := Tryd.f23) (t := 2) (v := .string ((((dg ((n / 10)))) ++ ((b1 ((48 + (n % 10)))))))) rfl rfl ?_
     exact ⟨by rw [dg_ge (n := n) (by omega)], hE74⟩

theorem digits23 (n : Nat) (hn : n < 1000000000000000) (w : World) : Calls Tryd.prog 23 #[.int .i64 ((n : Nat) : Int)] w fun e w' => e = .returned (.string (dg n)) ∧ Ext w w' := by
  induction n using Nat.strongRecOn generalizing w with
  | ind n ih => exact digits23s n w hn fun m hm w => ih m hm (by omega) w
set_option maxHeartbeats 4000000 in
theorem whole7 (ls : List Int) (vb : Value) (w0 : World) (hb : Src w0.heap vb ls.length 1 (flat enI ls)) (hT : Laid w0) : Calls Tryd.prog 7 #[vb] w0 fun e w' => e = .returned (.bool true) ∧ Ext w0 w' := by
  have hE0 : Below w0.heap.size w0 w0 := Below.refl _ _
  have hz0 := hE0.le
  obtain ⟨a, ca, rfl, hca, hca1⟩ := hb.form
  refine enter Tryd.func7 rfl 131 Tryd.ntmps7 rfl ?_
  refine seqK fun Q1 kn2 kr3 ke4 => ?_
  refine region ?_
  refine st_q (v := .bool false) (x_assign rfl) ?_
  refine st_nil ?_
  refine kn2 _ _ ?_
  refine seqK fun Q5 kn6 kr7 ke8 => ?_
  refine seqK fun Q9 kn10 kr11 ke12 => ?_
  refine region ?_
  refine st_c (t_call [] T.cf11 rfl rfl) (known11 _ (hT.below hE0)) ?_
  rintro _ w13 ⟨rfl, hx14⟩
  refine ⟨_, rfl, ?_⟩
  have hE15 : Below w0.heap.size w0 w13 := hx14.e hE0 (Nat.le_refl _)
  have hz16 := hE15.le
  have hs17 := hx14.size
  refine st_q (v := .bool false) (x_notB (b := true) rfl) ?_
  refine st_nil ?_
  refine kn10 _ _ ?_
  refine cndF rfl ?_
  refine skip ?_
  refine kn6 _ _ ?_
  refine seqK fun Q18 kn19 kr20 ke21 => ?_
  refine region ?_
  refine st_q (v := .agg #[.string ((ByteArray.mk #[112])), .int .i64 ((2 : Nat) : Int), .slice none 0 0]) (x_build (fun _ => by kernel_rfl)) ?_
  refine st_e (e_alloc T.zv29 ?_)
  intro w22 hA23
  have hx24 := hA23.ext
  have hs25 := hA23.size
  have hB26 : Blk w22.heap w13.heap.size [.string ByteArray.empty, .int .i64 ((0 : Nat) : Int), .slice none 0 0] 29 := hA23.new
  have hE27 : Below w0.heap.size w0 w22 := hx24.e hE15 (Nat.le_refl _)
  have hz28 := hE27.le
  have hs29 := hx24.size
  refine st_s (e_st (v := .agg #[.string ((ByteArray.mk #[112])), .int .i64 ((2 : Nat) : Int), .slice none 0 0]) T.sz29 rfl rfl hB26 (by simp [Value.cells]) (by rfl) ?_)
  intro w30 hP31
  have hB32 : Blk w30.heap w13.heap.size [.string ((ByteArray.mk #[112])), .int .i64 ((2 : Nat) : Int), .slice none 0 0] 29 := hP31.new
  have hs33 := hP31.size
  have hE34 : Below w0.heap.size w0 w30 := hP31.below hE27 (by omega)
  have hz35 := hE34.le
  refine st_nil ?_
  refine kn19 _ _ ?_
  refine seqK fun Q36 kn37 kr38 ke39 => ?_
  refine region ?_
  refine st_q (v := .int .i64 ((0 : Nat) : Int)) (x_assign rfl) ?_
  refine st_q (v := .int .i64 ((1048576 : Nat) : Int)) (x_assign rfl) ?_
  refine st_q (v := .int .i64 (-1)) (x_assign rfl) ?_
  refine st_nil ?_
  refine kn37 _ _ ?_
  refine seqK fun Q40 kn41 kr42 ke43 => ?_
  refine seqK fun Q44 kn45 kr46 ke47 => ?_
  refine region ?_
  refine st_q (v := .int .i64 ((0 : Nat) : Int)) (x_assign rfl) ?_
  refine st_nil ?_
  refine kn45 _ _ ?_
  refine blockK fun Q48 kn49 kr50 kx51 kb52 => ?_
  refine loopK (α := Nat × Nat × Nat × Int × (List Row) × (Option Addr) × Nat) (fun x => [(0, .slice a ls.length ca), (3, .pointer (some ⟨w13.heap.size, 0, none⟩)), (4, .int .i64 ((x.2.1 : Nat) : Int)), (5, .int .i64 ((x.2.2.1 : Nat) : Int)), (6, .int .i64 x.2.2.2.1), (7, .int .i64 ((x.1 : Nat) : Int))]) (fun x w53 => Below w0.heap.size w0 w53 ∧ x.1 ≤ ls.length ∧ x.1 ≤ 1000 ∧ x.2.1 = ((ls.take x.1).map absm).sum ∧ ((∀ y ∈ ((ls.take x.1).map absm), x.2.2.1 ≤ y) ∧ (x.2.2.1 ∈ ((ls.take x.1).map absm) ∨ x.1 = 0 ∧ x.2.2.1 = 1048576)) ∧ ((∀ y ∈ ((ls.take x.1).map absm), ((y : Nat) : Int) ≤ x.2.2.2.1) ∧ ((∃ h ∈ ((ls.take x.1).map absm), x.2.2.2.1 = ((h : Nat) : Int)) ∨ x.1 = 0 ∧ x.2.2.2.1 = -1)) ∧ tp x.2.2.2.2.1 = rowsT ((ls.take x.1).map absm) ∧ Blk w53.heap w13.heap.size [.string ((ByteArray.mk #[112])), .int .i64 ((2 : Nat) : Int), .slice x.2.2.2.2.2.1 x.1 x.2.2.2.2.2.2] 29 ∧ Own w53.heap w0.heap.size 42 1 (.slice x.2.2.2.2.2.1 x.1 x.2.2.2.2.2.2) x.1 (flat enR x.2.2.2.2.1) ∧ RowsW w53.heap w0.heap.size x.2.2.2.2.1) (fun x => ls.length - x.1) (0, 0, 1048576, (-1), [], none, 0) ⟨rfl, rfl, rfl, rfl, rfl, rfl, trivial⟩ ?_ ?_
  ·
   refine ⟨hE34, ?_⟩
   try dsimp only
   exact ⟨Nat.zero_le _, Nat.zero_le _, rfl, ⟨fun x hx => absurd hx (by simp), .inr ⟨rfl, rfl⟩⟩, ⟨fun x hx => absurd hx (by simp), .inr ⟨rfl, rfl⟩⟩, rfl, hB32, Own.nil _ _ _ _, RowsW.nil _ _⟩
  ·
   rintro τ54 ⟨i, sm, lo, gr, W, aT, cT⟩ w55 ⟨hx56, ⟨hi, hi2, hsm, ⟨hlo1, hlo2⟩, ⟨hgr1, hgr2⟩, hWt, hB3, hOT, hW⟩⟩
   try dsimp only at hi hi2 hsm hlo1 hlo2 hgr1 hgr2 hWt hB3 hOT hW
   have hz57 := hx56.le
   intro Q58 kn59 kr60 ke61
   have hWl : W.length = i := by have h := congrArg List.length hWt; rw [tp_len, rowsT_len, List.length_map, List.length_take] at h; omega
   have hNb : ∀ x ∈ ((ls.take i).map absm), x < 2 ^ 20 := fun x hx => by obtain ⟨z, _, rfl⟩ := List.mem_map.1 hx; exact absm_lt z
   have hNl : ((ls.take i).map absm).length = i := by rw [List.length_map, List.length_take]; omega
   have hsb := sum_bound hNb
   rw [hNl, ← hsm] at hsb
   have hsb2 : i * 2 ^ 20 ≤ 1048576000 := Nat.le_trans (Nat.mul_le_mul_right _ hi2) (by decide)
   have hab := absm_lt (el ls i)
   have htm : -(1048576 : Int) < (el ls i).tmod 1048576 ∧ (el ls i).tmod 1048576 < 1048576 := by have h := absm_lt (el ls i); unfold absm at h; omega
   refine seqK fun Q62 kn63 kr64 ke65 => ?_
   refine seqK fun Q66 kn67 kr68 ke69 => ?_
   refine region ?_
   refine st_q (v := .int .i64 ((i : Nat) : Int)) (x_move rfl) ?_
   refine st_q (v := .slice a ls.length ca) (x_move rfl) ?_
   refine st_q (v := .int .i64 ((ls.length : Nat) : Int)) (x_lenSl rfl Tryd.underlying30 rfl) ?_
   refine st_q (v := .bool (decide (i < ls.length))) (x_lssN rfl rfl) ?_
   refine st_if (p := i < ls.length) (x_move rfl) (fun h70 => ?_) (fun h70 => ?_)
   ·
    refine st_gq 4 19 rfl rfl (by decide) ?_
    refine st_q (v := .int .i64 ((i : Nat) : Int)) (x_move rfl) ?_
    refine st_gq 4 19 rfl rfl (by decide) ?_
    refine st_q (v := .bool (decide (i < 1000))) (x_lssN rfl rfl) ?_
    refine st_q (v := .bool (decide (i < 1000))) (x_pickT rfl rfl) ?_
    refine st_nil ?_
    refine kn67 _ _ ?_
    refine cnd (p := i < 1000) rfl (fun h71 => ?_) (fun h71 => ?_)
    ·
     refine skip ?_
     refine kn63 _ _ ?_
     refine seqK fun Q72 kn73 kr74 ke75 => ?_
     refine blockK fun Q76 kn77 kr78 kx79 kb80 => ?_
     refine seqK fun Q81 kn82 kr83 ke84 => ?_
     refine region ?_
     refine st_q (v := .slice a ls.length ca) (x_move rfl) ?_
     refine st_q (v := .int .i64 ((i : Nat) : Int)) (x_move rfl) ?_
     obtain ⟨b85, o86, ha87, hc88⟩ := hb.at (by omega)
     refine st_q (v := .pointer (some ⟨b85, o86 + i * 1, none⟩)) (x_index' T.sl30 rfl ha87 rfl (by omega)) ?_
     refine st_q (v := .int .i64 ((el ls i))) (x_load1 T.na3 rfl ((hc88.below hx56).elem enI_len (i := i) (by omega))) ?_
     refine st_q (v := .int .i64 (((el ls i).tmod 1048576))) (x_rem rfl rfl (by decide)) ?_
     refine st_q (v := .int .i64 (((el ls i).tmod 1048576))) (x_assign rfl) ?_
     refine st_nil ?_
     refine kn82 _ _ ?_
     refine seqLK (n := 131) (ds := []) (α := Int) (fun x => [(0, .slice a ls.length ca), (3, .pointer (some ⟨w13.heap.size, 0, none⟩)), (4, .int .i64 ((sm : Nat) : Int)), (5, .int .i64 ((lo : Nat) : Int)), (6, .int .i64 gr), (7, .int .i64 ((i : Nat) : Int)), (8, .int .i64 x)]) (fun x w89 => Ext w55 w89 ∧ x = ((absm (el ls i) : Nat) : Int)) ?_ ?_
     ·
      have hx90 : Ext w55 w55 := Below.refl _ _
      intro Q91 kn92 kr93 ke94
      refine seqK fun Q95 kn96 kr97 ke98 => ?_
      refine region ?_
      refine st_q (v := .int .i64 (((el ls i).tmod 1048576))) (x_move rfl) ?_
      refine st_q (v := .bool (decide ((((el ls i).tmod 1048576)) < 0))) (x_lss rfl rfl) ?_
      refine st_nil ?_
      refine kn96 _ _ ?_
      refine cnd (p := (((el ls i).tmod 1048576)) < 0) rfl (fun h99 => ?_) (fun h99 => ?_)
      ·
       refine region ?_
       refine st_q (v := .int .i64 (((el ls i).tmod 1048576))) (x_move rfl) ?_
       refine st_q (v := .int .i64 ((-(((el ls i).tmod 1048576))))) (x_neg rfl ⟨by omega, by omega⟩) ?_
       refine st_q (v := .int .i64 ((-(((el ls i).tmod 1048576))))) (x_assign rfl) ?_
       refine st_nil ?_
       refine kn92 _ ((-(((el ls i).tmod 1048576)))) _ ⟨rfl, rfl, rfl, rfl, rfl, rfl, rfl, trivial⟩ ⟨hx90, ?_⟩
       try dsimp only
       first | exact absm_neg (by assumption) | exact absm_pos (by assumption)
      ·
       refine skip ?_
       refine kn92 _ (((el ls i).tmod 1048576)) _ ⟨rfl, rfl, rfl, rfl, rfl, rfl, rfl, trivial⟩ ⟨hx90, ?_⟩
       try dsimp only
       first | exact absm_neg (by assumption) | exact absm_pos (by assumption)
     ·
      rintro τ100 m w101 ⟨hx102, rfl⟩
      have hB103 := hB3.ext hx102
      have hF104 := hOT.ext hx102
      have hF105 := hW.ext hx102
      have hE106 : Below w0.heap.size w0 w101 := hx102.e hx56 (Nat.le_refl _)
      have hz107 := hE106.le
      have hs108 := hx102.size
      refine seqK fun Q109 kn110 kr111 ke112 => ?_
      refine regionD1 [1] [0, 1, 2, 4, 9] (.one 0 (.one 1 (.one 2 (.one 4 (.one 3 (.one 5 (.one 6 (.one 7 (.one 8 (.one 9 (.one 10 .done))))))))))) (by kernel_rfl) (by kernel_rfl) ?_
      intro w113 hx114 hs115
      have hB116 := hB103.ext hx114
      have hF117 := hF104.ext hx114
      have hF118 := hF105.ext hx114
      have hE119 : Below w0.heap.size w0 w113 := hx114.e hE106 (Nat.le_refl _)
      have hz120 := hE119.le
      have hs121 := hx114.size
      have hS122 : Ext w113 w113 := Below.refl _ _
      refine d_q (v := .pointer (some ⟨w13.heap.size, 2, none⟩)) rfl rfl (fun _ => x_field (o := 0) T.fa29_2 rfl) ?_
      refine d_l (v := .slice aT i cT) rfl rfl rfl (fun v124 hw123 => x_load1 T.na27 rfl ((hB116.one 2 rfl).ext hw123)) ?_
      refine d_q (v := .int .i64 ((i : Nat) : Int)) rfl rfl (fun _ => x_move rfl) ?_
      refine d_q (v := .int .i64 (((absm (el ls i)) : Nat) : Int)) rfl rfl (fun _ => x_move rfl) ?_
      refine d_e (by decide) (d_c' rfl rfl (t_call [.int .i64 ((i : Nat) : Int)] T.cf23 rfl rfl) (digits23 i (by omega) _) ?_)
      rintro _ w125 ⟨rfl, hx126⟩
      refine ⟨_, rfl, ?_⟩
      have hB127 := hB116.ext hx126
      have hF128 := hF117.ext hx126
      have hF129 := hF118.ext hx126
      have hE130 : Below w0.heap.size w0 w125 := hx126.e hE119 (Nat.le_refl _)
      have hz131 := hE130.le
      have hs132 := hx126.size
      have hS133 := hS122.trans (hx126.mono hS122.size)
      refine ⟨fun _ => hS133, ?_⟩
      refine d_e (by decide) (d_c' rfl rfl (t_call [.int .i64 (((absm (el ls i)) : Nat) : Int)] T.cf23 rfl rfl) (digits23 ((absm (el ls i))) (by omega) _) ?_)
      rintro _ w134 ⟨rfl, hx135⟩
      refine ⟨_, rfl, ?_⟩
      have hB136 := hB127.ext hx135
      have hF137 := hF128.ext hx135
      have hF138 := hF129.ext hx135
      have hE139 : Below w0.heap.size w0 w134 := hx135.e hE130 (Nat.le_refl _)
      have hz140 := hE139.le
      have hs141 := hx135.size
      have hS142 := hS133.trans (hx135.mono hS133.size)
      refine ⟨fun _ => hS142, ?_⟩
      refine d_e (by decide) (d_e' rfl rfl (e_buildSlice (cs := [.string ((dg i)), .string ((dg ((absm (el ls i)))))]) (e := 9) (fun _ => by kernel_rfl) ?_))
      intro w143 hA144
      have hx145 := hA144.ext
      have hs146 := hA144.size
      have hB147 : Blk w143.heap w134.heap.size [.string ((dg i)), .string ((dg ((absm (el ls i)))))] 9 := hA144.new
      have hB148 := hB136.ext hx145
      have hF149 := hF137.ext hx145
      have hF150 := hF138.ext hx145
      have hE151 : Below w0.heap.size w0 w143 := hx145.e hE139 (Nat.le_refl _)
      have hz152 := hE151.le
      have hs153 := hx145.size
      have hS154 := hS142.trans (hx145.mono hS142.size)
      refine ⟨fun _ => hS154, ?_⟩
      refine d_e (by decide) (d_e' rfl rfl (e_buildSlice (cs := [.slice ((some ⟨w134.heap.size, 0, none⟩)) 2 2]) (e := 42) (fun _ => by kernel_rfl) ?_))
      intro w155 hA156
      have hx157 := hA156.ext
      have hs158 := hA156.size
      have hB159 : Blk w155.heap w143.heap.size [.slice ((some ⟨w134.heap.size, 0, none⟩)) 2 2] 42 := hA156.new
      have hB160 := hB148.ext hx157
      have hB161 := hB147.ext hx157
      have hF162 := hF149.ext hx157
      have hF163 := hF150.ext hx157
      have hE164 : Below w0.heap.size w0 w155 := hx157.e hE151 (Nat.le_refl _)
      have hz165 := hE164.le
      have hs166 := hx157.size
      have hS167 := hS154.trans (hx157.mono hS154.size)
      refine ⟨fun _ => hS167, ?_⟩
      have hW168 : RowsW w155.heap w0.heap.size (W ++ [(((some ⟨w134.heap.size, 0, none⟩), 2), [dg i, dg (absm (el ls i))])]) := hF163.snoc (hB161.ownN (k := 1) (m := 2) (by omega) rfl (by omega))
      refine d_e (by decide) (d_e' rfl rfl (e_appendX T.sl27 rfl rfl hF162 (hB159.src1 (k := 1) (m := 1) rfl (by omega)) (ones (by rfl)) (by omega) (by decide) (by omega) ?_))
      intro v169 w170 hO171 hG172 hN173 hW174
      have hB175 := hB160.gk (hG172) (hF162.rowk) (by decide)
      have hF176 := hW168.gk (hG172) (hF162.rowk) (by decide)
      have hE177 : Below w0.heap.size w0 w170 := grown_below hG172 hE164 (Nat.le_refl _) (fun b hb => (by have := (hF162.lt hb).1; clear hb; omega))
      have hz178 := hE177.le
      have hs179 := hG172.size
      refine ⟨need_no (by kernel_rfl), ?_⟩
      have hO180 := Own.snoc (enc := enR) (u := (((some ⟨w134.heap.size, 0, none⟩), 2), [dg i, dg (absm (el ls i))])) hO171
      obtain ⟨a181, c182, rfl, hm183, hm184⟩ := hO180.src.form
      refine d_q (v := .pointer (some ⟨w13.heap.size, 2, none⟩)) rfl rfl (fun _ => x_field (o := 0) T.fa29_2 rfl) ?_
      refine d_e (by decide) (d_s' rfl rfl (e_st (v := .slice a181 ((i + 1)) c182) T.sz27 rfl rfl hB175 (by simp [Value.cells]) (by rfl) ?_))
      intro w185 hP186
      have hB187 : Blk w185.heap w13.heap.size [.string ((ByteArray.mk #[112])), .int .i64 ((2 : Nat) : Int), .slice a181 ((i + 1)) c182] 29 := hP186.new
      have hs188 := hP186.size
      have hF189 := hF176.gk (hP186.grownBy) (hB175.rowk) (by decide)
      have hF190 := hO180.gk (hP186.grownBy) (hB175.rowk) (by decide)
      have hE191 : Below w0.heap.size w0 w185 := hP186.below hE177 (by omega)
      have hz192 := hE191.le
      refine ⟨need_no (by kernel_rfl), ?_⟩
      refine d_done ?_
      refine kn110 _ _ ?_
      refine seqK fun Q193 kn194 kr195 ke196 => ?_
      refine region ?_
      refine st_q (v := .int .i64 ((sm : Nat) : Int)) (x_move rfl) ?_
      refine st_q (v := .int .i64 (((absm (el ls i)) : Nat) : Int)) (x_move rfl) ?_
      refine st_q (v := .int .i64 (((sm + (absm (el ls i))) : Nat) : Int)) (x_addN rfl rfl (by omega)) ?_
      refine st_q (v := .int .i64 (((sm + (absm (el ls i))) : Nat) : Int)) (x_assign rfl) ?_
      refine st_nil ?_
      refine kn194 _ _ ?_
      refine seqK fun Q197 kn198 kr199 ke200 => ?_
      refine region ?_
      refine st_q (v := .int .i64 ((lo : Nat) : Int)) (x_move rfl) ?_
      refine st_q (v := .int .i64 (((absm (el ls i)) : Nat) : Int)) (x_move rfl) ?_
      refine st_q (v := .int .i64 (((min lo ((absm (el ls i)))) : Nat) : Int)) (x_minN rfl rfl) ?_
      refine st_q (v := .int .i64 (((min lo ((absm (el ls i)))) : Nat) : Int)) (x_assign rfl) ?_
      refine st_nil ?_
      refine kn198 _ _ ?_
      refine region ?_
      refine st_q (v := .int .i64 gr) (x_move rfl) ?_
      refine st_q (v := .int .i64 (((absm (el ls i)) : Nat) : Int)) (x_move rfl) ?_
      refine st_q (v := .int .i64 ((max gr (((absm (el ls i)) : Nat) : Int)))) (x_maxI rfl rfl) ?_
      refine st_q (v := .int .i64 ((max gr (((absm (el ls i)) : Nat) : Int)))) (x_assign rfl) ?_
      refine st_nil ?_
      refine kn77 _ _ ?_
      refine kn73 _ _ ?_
      refine region ?_
      refine st_q (v := .int .i64 ((i : Nat) : Int)) (x_move rfl) ?_
      refine st_q (v := .int .i64 (((i + 1) : Nat) : Int)) (x_addN rfl rfl (by omega)) ?_
      refine st_q (v := .int .i64 (((i + 1) : Nat) : Int)) (x_assign rfl) ?_
      refine st_nil ?_
      refine kn59 _ ((i + 1), (sm + (absm (el ls i))), (min lo ((absm (el ls i)))), (max gr (((absm (el ls i)) : Nat) : Int)), (W ++ [(((some ⟨w134.heap.size, 0, none⟩), 2), [dg i, dg (absm (el ls i))])]), a181, c182) _ ⟨rfl, rfl, rfl, rfl, rfl, rfl, trivial⟩ ⟨hE191, ?_⟩ ?_
      ·
       try dsimp only
       have hNs : ((ls.take (i + 1)).map absm) = ((ls.take i).map absm) ++ [absm (el ls i)] := by rw [take_succ_el (by omega), List.map_append]; rfl
       rw [hNs]
       refine ⟨by omega, by omega, by rw [List.sum_append, List.sum_singleton, ← hsm], ⟨fun x hx => ?_, .inl ?_⟩, ⟨fun x hx => ?_, .inl ?_⟩, by rw [rowsT_snoc, hNl, ← hWt]; simp [tp], hB187, hF190, hF189⟩
       · rcases List.mem_append.1 hx with hx | hx
         · have := hlo1 x hx; omega
         · rw [List.mem_singleton] at hx; omega
       · rcases hlo2 with h | ⟨h, h2⟩
         · rcases Nat.le_total lo (absm (el ls i)) with g | g
           · rw [Nat.min_eq_left g]; exact List.mem_append_left _ h
           · rw [Nat.min_eq_right g]; exact List.mem_append_right _ (List.mem_singleton.2 rfl)
         · rw [Nat.min_eq_right (by omega)]; exact List.mem_append_right _ (List.mem_singleton.2 rfl)
       · rcases List.mem_append.1 hx with hx | hx
         · have := hgr1 x hx; omega
         · rw [List.mem_singleton] at hx; omega
       · rcases hgr2 with ⟨h, hm, he⟩ | ⟨h, h2⟩
         · rcases Nat.le_total h (absm (el ls i)) with g | g
           · exact ⟨_, List.mem_append_right _ (List.mem_singleton.2 rfl), by omega⟩
           · exact ⟨_, List.mem_append_left _ hm, by omega⟩
         · exact ⟨_, List.mem_append_right _ (List.mem_singleton.2 rfl), by omega⟩
      ·
       (try dsimp only); omega
    ·
     refine exit ?_
     refine ke65 _ _ _ ?_
     refine ke61 _ _ _ ?_
     refine kb52 _ _ ?_
     refine kn41 _ _ ?_
     refine seqK fun Q201 kn202 kr203 ke204 => ?_
     refine region ?_
     refine st_q (v := .agg #[.string ((ByteArray.mk #[112])), .int .i64 ((2 : Nat) : Int), .slice aT i cT]) (x_loadA [.string ((ByteArray.mk #[112])), .int .i64 ((2 : Nat) : Int), .slice aT i cT] T.ag29 rfl (hB3.cells 0 [.string ((ByteArray.mk #[112])), .int .i64 ((2 : Nat) : Int), .slice aT i cT] (cells_at rfl))) ?_
     have hRT : ∀ t ∈ tp W, ∃ a b, t = [dg a, dg b] ∧ a < 10 ^ 15 ∧ b < 10 ^ 15 := fun t ht => by
       rw [hWt] at ht; unfold rowsT at ht; obtain ⟨j, hj, rfl⟩ := List.mem_map.1 ht
       have hj2 := List.mem_range.1 hj
       have hjb := hNb _ (el_mem' hj2)
       exact ⟨_, _, rfl, by omega, by omega⟩
     have hG : RightR 2 (tp W) ∧ ColsOK 2 [] := ⟨⟨fun t ht => by obtain ⟨a, b, rfl, _⟩ := hRT t ht; rfl, by decide, by decide⟩, fun k hk => absurd hk (by simp)⟩
     have hsz : SizeL W := fun x hx s hs => by
       obtain ⟨a, b, e, ha, hb⟩ := hRT x.2 (List.mem_map_of_mem hx)
       rw [e] at hs
       simp only [List.mem_cons, List.not_mem_nil, or_false] at hs
       rcases hs with rfl | rfl
       · exact Nat.le_trans (dg_size 14 a ha) (by unfold maxLen; omega)
       · exact Nat.le_trans (dg_size 14 b hb) (by unfold maxLen; omega)
     have hTs : Src w55.heap (.slice aT i cT) W.length 1 (flat enR W) := by rw [hWl]; exact hOT.src
     have hTW := hW.rowsP
     refine st_c (t_call [.agg #[.string ((ByteArray.mk #[112])), .int .i64 ((2 : Nat) : Int), .slice aT i cT], .int .i64 ((1 : Nat) : Int), .slice none 0 0] T.cf15 rfl rfl) (sums15 (ByteArray.mk #[112]) 2 W _ [] _ 1 _ hTs hTW (Src.nil _ _) (Nat.zero_le _) hG (by omega) (by decide) hsz (hT.below hx56)) ?_
     rintro _ w205 ⟨vg, A, GL, rfl, hx206, hO207, hKA, hAg, hGl, hFill, _⟩
     refine ⟨_, rfl, ?_⟩
     have hB208 := hB3.ext hx206
     have hF209 := hOT.ext hx206
     have hF210 := hW.ext hx206
     have hE211 : Below w0.heap.size w0 w205 := hx206.e hx56 (Nat.le_refl _)
     have hz212 := hE211.le
     have hs213 := hx206.size
     have hWG := whole_group hWt (by omega) hNb hAg hFill
     rw [hNl] at hWG
     obtain ⟨aG, cG, rfl, hcG, hcG1⟩ := hO207.src.form
     rw [← hGl] at hO207
     have hO214 := hO207.weak (lo' := w0.heap.size) (by omega)
     have hGm : GL.length = min 1 i := by omega
     refine st_q (v := .tuple #[.slice aG A.length cG, .int .i64 ((0 : Nat) : Int)]) (x_move rfl) ?_
     refine st_q (v := .slice aG A.length cG) (x_extract rfl rfl) ?_
     refine st_q (v := .int .i64 ((0 : Nat) : Int)) (x_extract rfl rfl) ?_
     refine st_q (v := .slice aG A.length cG) (x_assign rfl) ?_
     refine st_q (v := .int .i64 ((0 : Nat) : Int)) (x_assign rfl) ?_
     refine st_nil ?_
     refine kn202 _ _ ?_
     refine seqK fun Q215 kn216 kr217 ke218 => ?_
     refine seqK fun Q219 kn220 kr221 ke222 => ?_
     refine region ?_
     refine st_q (v := .int .i64 ((0 : Nat) : Int)) (x_move rfl) ?_
     refine st_c (t_call [.int .i64 ((0 : Nat) : Int)] T.cf16 rfl rfl) (num16 0 _) ?_
     rintro _ _ ⟨rfl, rfl⟩
     refine ⟨_, rfl, ?_⟩
     refine st_q (v := .bool (decide (0 ≠ 0))) (x_neqN rfl rfl) ?_
     refine st_if (p := 0 ≠ 0) (x_move rfl) (fun h223 => ?_) (fun h223 => ?_)
     ·
      exact absurd h223 (not_not_intro rfl)
     ·
      refine st_gq 3 61 rfl rfl (by decide) ?_
      refine st_q (v := .slice aG A.length cG) (x_move rfl) ?_
      refine st_gq 3 61 rfl rfl (by decide) ?_
      refine st_q (v := .int .i64 ((A.length : Nat) : Int)) (x_lenSl rfl Tryd.underlying32 rfl) ?_
      refine st_gq 3 61 rfl rfl (by decide) ?_
      refine st_q (v := .pointer (some ⟨w13.heap.size, 2, none⟩)) (x_field (o := 0) T.fa29_2 rfl) ?_
      refine st_gq 3 61 rfl rfl (by decide) ?_
      refine st_q (v := .slice aT i cT) (x_load1 T.na27 rfl (hB208.one 2 rfl)) ?_
      refine st_gq 3 61 rfl rfl (by decide) ?_
      refine st_q (v := .int .i64 ((i : Nat) : Int)) (x_lenSl rfl Tryd.underlying27 rfl) ?_
      refine st_gq 3 61 rfl rfl (by decide) ?_
      refine st_q (v := .int .i64 (((min 1 i) : Nat) : Int)) (x_minN rfl rfl) ?_
      refine st_gq 3 61 rfl rfl (by decide) ?_
      refine st_q (v := .bool (decide (A.length ≠ ((min 1 i))))) (x_neqN rfl rfl) ?_
      refine st_q (v := .bool (decide (A.length ≠ ((min 1 i))))) (x_pickF rfl rfl) ?_
      refine st_nil ?_
      refine kn220 _ _ ?_
      refine cnd (p := A.length ≠ ((min 1 i))) rfl (fun h224 => ?_) (fun h224 => ?_)
      ·
       exact absurd h224 (not_not_intro hWG.1)
      ·
       refine skip ?_
       refine kn216 _ _ ?_
       refine seqK fun Q225 kn226 kr227 ke228 => ?_
       refine seqK fun Q229 kn230 kr231 ke232 => ?_
       refine region ?_
       refine st_q (v := .slice aG A.length cG) (x_move rfl) ?_
       refine st_q (v := .int .i64 ((A.length : Nat) : Int)) (x_lenSl rfl Tryd.underlying32 rfl) ?_
       refine st_q (v := .bool (decide (A.length = 0))) (x_eqlN rfl rfl) ?_
       refine st_nil ?_
       refine kn230 _ _ ?_
       refine cnd (p := A.length = 0) rfl (fun h233 => ?_) (fun h233 => ?_)
       ·
        refine seqK fun Q234 kn235 kr236 ke237 => ?_
        refine region ?_
        refine st_q (v := .bool true) (x_assign rfl) ?_
        refine st_nil ?_
        refine kn235 _ _ ?_
        refine ret ?_
        refine kr227 _ _ ?_
        refine leave1 (P := Tryd.prog) (fn := Tryd.f7) (t := 2) (v := .bool true) rfl rfl ?_
        exact ⟨rfl, hE211⟩
       ·
        refine skip ?_
        refine kn226 _ _ ?_
        refine seqK fun Q238 kn239 kr240 ke241 => ?_
        refine region ?_
        refine st_q (v := .slice aG A.length cG) (x_move rfl) ?_
        have hlG : ∀ z, Value.ownBlock (.slice aG GL.length cG) = some z → z < w205.heap.size := fun z e => (hO214.lt e).2
        have hi0 : 0 < i := by omega
        have hlo3 : lo ∈ ((ls.take i).map absm) := hlo2.resolve_right (fun h => by omega)
        obtain ⟨g1, hg1, hge⟩ := hgr2.resolve_right (fun h => by omega)
        obtain ⟨hWc, hWU⟩ := hWG.2 hi0 lo g1 ⟨hlo3, hlo1⟩ ⟨hg1, fun x hx => by have := hgr1 x hx; omega⟩
        have hU1 := hWU.numbers
        rw [hNl, ← hWc] at hU1
        have hU2 := hWU.sum
        rw [← hsm] at hU2
        have hU3 := hWU.least
        have hU4 := hWU.greatest
        rw [← hge] at hU4
        have hU5 : (Flt.D.order (el GL 0).spread 0 = some .eq) ↔ (((lo : Nat) : Int) = gr) := hWU.spread.trans (by omega)
        obtain ⟨b242, o243, ha244, hc245⟩ := hO214.src.at (by omega)
        refine st_q (v := .pointer (some ⟨b242, o243 + 0 * 8, none⟩)) (x_index' T.sl32 rfl ha244 rfl (by omega)) ?_
        refine st_q (v := .agg #[.slice ((el GL 0).q) ((el GL 0).key.length) ((el GL 0).c), .int .i64 ((el GL 0).count), .int .i64 ((el GL 0).numbers), .float .f64 ((el GL 0).sum), .float .f64 ((el GL 0).mean), .float .f64 ((el GL 0).spread), .float .f64 ((el GL 0).least), .float .f64 ((el GL 0).greatest)]) (x_loadA [.slice ((el GL 0).q) ((el GL 0).key.length) ((el GL 0).c), .int .i64 ((el GL 0).count), .int .i64 ((el GL 0).numbers), .float .f64 ((el GL 0).sum), .float .f64 ((el GL 0).mean), .float .f64 ((el GL 0).spread), .float .f64 ((el GL 0).least), .float .f64 ((el GL 0).greatest)] T.ag44 rfl (hc245.elem enG_len (i := 0) (by omega))) ?_
        refine st_e (e_alloc T.zv44 ?_)
        intro w246 hA247
        have hx248 := hA247.ext
        have hs249 := hA247.size
        have hB250 : Blk w246.heap w205.heap.size [.slice none 0 0, .int .i64 ((0 : Nat) : Int), .int .i64 ((0 : Nat) : Int), .float .f64 0, .float .f64 0, .float .f64 0, .float .f64 0, .float .f64 0] 44 := hA247.new
        have hB251 := hB208.ext hx248
        have hF252 := hF209.ext hx248
        have hF253 := hF210.ext hx248
        have hF254 := hO214.ext hx248
        have hF255 := hc245.ext hx248
        have hE256 : Below w0.heap.size w0 w246 := hx248.e hE211 (Nat.le_refl _)
        have hz257 := hE256.le
        have hs258 := hx248.size
        refine st_s (e_st (v := .agg #[.slice ((el GL 0).q) ((el GL 0).key.length) ((el GL 0).c), .int .i64 ((el GL 0).count), .int .i64 ((el GL 0).numbers), .float .f64 ((el GL 0).sum), .float .f64 ((el GL 0).mean), .float .f64 ((el GL 0).spread), .float .f64 ((el GL 0).least), .float .f64 ((el GL 0).greatest)]) T.sz44 rfl rfl hB250 (by simp [Value.cells]) (by rfl) ?_)
        intro w259 hP260
        have hB261 : Blk w259.heap w205.heap.size [.slice ((el GL 0).q) ((el GL 0).key.length) ((el GL 0).c), .int .i64 ((el GL 0).count), .int .i64 ((el GL 0).numbers), .float .f64 ((el GL 0).sum), .float .f64 ((el GL 0).mean), .float .f64 ((el GL 0).spread), .float .f64 ((el GL 0).least), .float .f64 ((el GL 0).greatest)] 44 := hP260.new
        have hs262 := hP260.size
        have hB263 := hB251.gk (hP260.grownBy) (hB250.rowk) (by decide)
        have hF264 := hF252.gk (hP260.grownBy) (hB250.rowk) (by decide)
        have hF265 := hF253.gk (hP260.grownBy) (hB250.rowk) (by decide)
        have hF266 := hF254.pt hP260 (by intro e; have := hlG _ e; omega)
        have hE268 : Below w0.heap.size w0 w259 := hP260.below hE256 (by omega)
        have hz269 := hE268.le
        refine st_nil ?_
        refine kn239 _ _ ?_
        refine seqK fun Q270 kn271 kr272 ke273 => ?_
        refine seqK fun Q274 kn275 kr276 ke277 => ?_
        refine region ?_
        refine st_q (v := .pointer (some ⟨w205.heap.size, 1, none⟩)) (x_field (o := 0) T.fa44_1 rfl) ?_
        refine st_q (v := .int .i64 ((el GL 0).count)) (x_load1 T.na3 rfl (hB261.one 1 rfl)) ?_
        refine st_q (v := .pointer (some ⟨w13.heap.size, 2, none⟩)) (x_field (o := 0) T.fa29_2 rfl) ?_
        refine st_q (v := .slice aT i cT) (x_load1 T.na27 rfl (hB263.one 2 rfl)) ?_
        refine st_q (v := .int .i64 ((i : Nat) : Int)) (x_lenSl rfl Tryd.underlying27 rfl) ?_
        refine st_q (v := .bool (decide (((el GL 0).count) ≠ (((i : Nat) : Int))))) (x_neq rfl rfl) ?_
        refine st_if (p := ((el GL 0).count) ≠ (((i : Nat) : Int))) (x_move rfl) (fun h278 => ?_) (fun h278 => ?_)
        ·
         exact absurd h278 (not_not_intro hWc)
        ·
         refine st_gq 6 82 rfl rfl (by decide) ?_
         refine st_q (v := .pointer (some ⟨w205.heap.size, 2, none⟩)) (x_field (o := 0) T.fa44_2 rfl) ?_
         refine st_gq 6 82 rfl rfl (by decide) ?_
         refine st_q (v := .int .i64 ((el GL 0).numbers)) (x_load1 T.na3 rfl (hB261.one 2 rfl)) ?_
         refine st_gq 6 82 rfl rfl (by decide) ?_
         refine st_q (v := .pointer (some ⟨w205.heap.size, 1, none⟩)) (x_field (o := 0) T.fa44_1 rfl) ?_
         refine st_gq 6 82 rfl rfl (by decide) ?_
         refine st_q (v := .int .i64 ((el GL 0).count)) (x_load1 T.na3 rfl (hB261.one 1 rfl)) ?_
         refine st_gq 6 82 rfl rfl (by decide) ?_
         refine st_q (v := .bool (decide (((el GL 0).numbers) ≠ ((el GL 0).count)))) (x_neq rfl rfl) ?_
         refine st_q (v := .bool (decide (((el GL 0).numbers) ≠ ((el GL 0).count)))) (x_pickF rfl rfl) ?_
         refine st_if (p := ((el GL 0).numbers) ≠ ((el GL 0).count)) (x_move rfl) (fun h279 => ?_) (fun h279 => ?_)
         ·
          exact absurd h279 (not_not_intro hU1)
         ·
          refine st_gq 13 89 rfl rfl (by decide) ?_
          refine st_q (v := .pointer (some ⟨w205.heap.size, 3, none⟩)) (x_field (o := 0) T.fa44_3 rfl) ?_
          refine st_gq 13 89 rfl rfl (by decide) ?_
          refine st_q (v := .float .f64 ((el GL 0).sum)) (x_load1 T.na22 rfl (hB261.one 3 rfl)) ?_
          refine st_gq 13 89 rfl rfl (by decide) ?_
          refine st_q (v := .int .i64 ((sm : Nat) : Int)) (x_move rfl) ?_
          refine st_gq 13 89 rfl rfl (by decide) ?_
          refine st_q (v := .float .f64 ((fromInt (((sm : Nat) : Int))))) (x_convF Tryd.underlying22 Tryd.underlying3 rfl) ?_
          refine st_gq 13 89 rfl rfl (by decide) ?_
          refine st_q (v := .bool (decide (¬ (Flt.D.order ((el GL 0).sum) ((fromInt (((sm : Nat) : Int)))) = some .eq)))) (x_neqF rfl rfl) ?_
          refine st_q (v := .bool (decide (¬ (Flt.D.order ((el GL 0).sum) ((fromInt (((sm : Nat) : Int)))) = some .eq)))) (x_pickF rfl rfl) ?_
          refine st_if (p := ¬ (Flt.D.order ((el GL 0).sum) ((fromInt (((sm : Nat) : Int)))) = some .eq)) (x_move rfl) (fun h280 => ?_) (fun h280 => ?_)
          ·
           exact absurd h280 (not_not_intro hU2)
          ·
           refine st_gq 20 96 rfl rfl (by decide) ?_
           refine st_q (v := .pointer (some ⟨w205.heap.size, 6, none⟩)) (x_field (o := 0) T.fa44_6 rfl) ?_
           refine st_gq 20 96 rfl rfl (by decide) ?_
           refine st_q (v := .float .f64 ((el GL 0).least)) (x_load1 T.na22 rfl (hB261.one 6 rfl)) ?_
           refine st_gq 20 96 rfl rfl (by decide) ?_
           refine st_q (v := .int .i64 ((lo : Nat) : Int)) (x_move rfl) ?_
           refine st_gq 20 96 rfl rfl (by decide) ?_
           refine st_q (v := .float .f64 ((fromInt (((lo : Nat) : Int))))) (x_convF Tryd.underlying22 Tryd.underlying3 rfl) ?_
           refine st_gq 20 96 rfl rfl (by decide) ?_
           refine st_q (v := .bool (decide (¬ (Flt.D.order ((el GL 0).least) ((fromInt (((lo : Nat) : Int)))) = some .eq)))) (x_neqF rfl rfl) ?_
           refine st_q (v := .bool (decide (¬ (Flt.D.order ((el GL 0).least) ((fromInt (((lo : Nat) : Int)))) = some .eq)))) (x_pickF rfl rfl) ?_
           refine st_if (p := ¬ (Flt.D.order ((el GL 0).least) ((fromInt (((lo : Nat) : Int)))) = some .eq)) (x_move rfl) (fun h281 => ?_) (fun h281 => ?_)
           ·
            exact absurd h281 (not_not_intro hU3)
           ·
            refine st_gq 27 103 rfl rfl (by decide) ?_
            refine st_q (v := .pointer (some ⟨w205.heap.size, 7, none⟩)) (x_field (o := 0) T.fa44_7 rfl) ?_
            refine st_gq 27 103 rfl rfl (by decide) ?_
            refine st_q (v := .float .f64 ((el GL 0).greatest)) (x_load1 T.na22 rfl (hB261.one 7 rfl)) ?_
            refine st_gq 27 103 rfl rfl (by decide) ?_
            refine st_q (v := .int .i64 gr) (x_move rfl) ?_
            refine st_gq 27 103 rfl rfl (by decide) ?_
            refine st_q (v := .float .f64 ((fromInt gr))) (x_convF Tryd.underlying22 Tryd.underlying3 rfl) ?_
            refine st_gq 27 103 rfl rfl (by decide) ?_
            refine st_q (v := .bool (decide (¬ (Flt.D.order ((el GL 0).greatest) ((fromInt gr)) = some .eq)))) (x_neqF rfl rfl) ?_
            refine st_q (v := .bool (decide (¬ (Flt.D.order ((el GL 0).greatest) ((fromInt gr)) = some .eq)))) (x_pickF rfl rfl) ?_
            refine st_nil ?_
            refine kn275 _ _ ?_
            refine cnd (p := ¬ (Flt.D.order ((el GL 0).greatest) ((fromInt gr)) = some .eq)) rfl (fun h282 => ?_) (fun h282 => ?_)
            ·
             exact absurd h282 (not_not_intro hU4)
            ·
             refine skip ?_
             refine kn271 _ _ ?_
             refine seqK fun Q283 kn284 kr285 ke286 => ?_
             refine region ?_
             refine st_q (v := .pointer (some ⟨w205.heap.size, 4, none⟩)) (x_field (o := 0) T.fa44_4 rfl) ?_
             refine st_q (v := .float .f64 ((el GL 0).mean)) (x_load1 T.na22 rfl (hB261.one 4 rfl)) ?_
             refine st_q (v := .pointer (some ⟨w205.heap.size, 6, none⟩)) (x_field (o := 0) T.fa44_6 rfl) ?_
             refine st_q (v := .float .f64 ((el GL 0).least)) (x_load1 T.na22 rfl (hB261.one 6 rfl)) ?_
             refine st_q (v := .bool (decide (Flt.D.order ((el GL 0).mean) ((el GL 0).least) = some .gt ∨ Flt.D.order ((el GL 0).mean) ((el GL 0).least) = some .eq))) (x_geqF rfl rfl) ?_
             refine st_if (p := Flt.D.order ((el GL 0).mean) ((el GL 0).least) = some .gt ∨ Flt.D.order ((el GL 0).mean) ((el GL 0).least) = some .eq) (x_move rfl) (fun h287 => ?_) (fun h287 => ?_)
             ·
              refine st_gq 5 115 rfl rfl (by decide) ?_
              refine st_q (v := .pointer (some ⟨w205.heap.size, 4, none⟩)) (x_field (o := 0) T.fa44_4 rfl) ?_
              refine st_gq 5 115 rfl rfl (by decide) ?_
              refine st_q (v := .float .f64 ((el GL 0).mean)) (x_load1 T.na22 rfl (hB261.one 4 rfl)) ?_
              refine st_gq 5 115 rfl rfl (by decide) ?_
              refine st_q (v := .pointer (some ⟨w205.heap.size, 7, none⟩)) (x_field (o := 0) T.fa44_7 rfl) ?_
              refine st_gq 5 115 rfl rfl (by decide) ?_
              refine st_q (v := .float .f64 ((el GL 0).greatest)) (x_load1 T.na22 rfl (hB261.one 7 rfl)) ?_
              refine st_gq 5 115 rfl rfl (by decide) ?_
              refine st_q (v := .bool (decide (Flt.D.order ((el GL 0).mean) ((el GL 0).greatest) = some .lt ∨ Flt.D.order ((el GL 0).mean) ((el GL 0).greatest) = some .eq))) (x_leqF rfl rfl) ?_
              refine st_q (v := .bool (decide (Flt.D.order ((el GL 0).mean) ((el GL 0).greatest) = some .lt ∨ Flt.D.order ((el GL 0).mean) ((el GL 0).greatest) = some .eq))) (x_pickT rfl rfl) ?_
              refine st_if (p := Flt.D.order ((el GL 0).mean) ((el GL 0).greatest) = some .lt ∨ Flt.D.order ((el GL 0).mean) ((el GL 0).greatest) = some .eq) (x_move rfl) (fun h288 => ?_) (fun h288 => ?_)
              ·
               refine st_gq 12 122 rfl rfl (by decide) ?_
               refine st_q (v := .pointer (some ⟨w205.heap.size, 5, none⟩)) (x_field (o := 0) T.fa44_5 rfl) ?_
               refine st_gq 12 122 rfl rfl (by decide) ?_
               refine st_q (v := .float .f64 ((el GL 0).spread)) (x_load1 T.na22 rfl (hB261.one 5 rfl)) ?_
               refine st_gq 12 122 rfl rfl (by decide) ?_
               refine st_q (v := .bool (decide (Flt.D.order ((el GL 0).spread) 0 = some .eq))) (x_eqlF rfl rfl) ?_
               refine st_gq 12 122 rfl rfl (by decide) ?_
               refine st_q (v := .int .i64 ((lo : Nat) : Int)) (x_move rfl) ?_
               refine st_gq 12 122 rfl rfl (by decide) ?_
               refine st_q (v := .int .i64 gr) (x_move rfl) ?_
               refine st_gq 12 122 rfl rfl (by decide) ?_
               refine st_q (v := .bool (decide ((((lo : Nat) : Int)) = gr))) (x_eql rfl rfl) ?_
               refine st_gq 12 122 rfl rfl (by decide) ?_
               refine st_q (v := .bool (decide ((Flt.D.order ((el GL 0).spread) 0 = some .eq) ↔ ((((lo : Nat) : Int)) = gr)))) (x_eqlB Tryd.underlying4 rfl rfl) ?_
               refine st_q (v := .bool (decide ((Flt.D.order ((el GL 0).spread) 0 = some .eq) ↔ ((((lo : Nat) : Int)) = gr)))) (x_pickT rfl rfl) ?_
               refine st_q (v := .bool (decide ((Flt.D.order ((el GL 0).spread) 0 = some .eq) ↔ ((((lo : Nat) : Int)) = gr)))) (x_assign rfl) ?_
               refine st_nil ?_
               refine kn284 _ _ ?_
               refine ret ?_
               refine leave1 (P := Tryd.prog) (fn := Tryd.f7) (t := 2) (v := .bool (decide ((Flt.D.order ((el GL 0).spread) 0 = some .eq) ↔ ((((lo : Nat) : Int)) = gr)))) rfl rfl ?_
               exact ⟨by rw [decide_eq_true hU5], hE268⟩
              ·
               exact absurd h288 (not_not_intro hWU.mhi)
             ·
              exact absurd h287 (not_not_intro hWU.mlo)
   ·
    refine st_gn 4 19 rfl rfl (by decide) rfl ?_
    refine st_gn 4 19 rfl rfl (by decide) rfl ?_
    refine st_q (v := .bool false) (x_pickF rfl rfl) ?_
    refine st_nil ?_
    refine kn67 _ _ ?_
    refine cndF rfl ?_
    refine exit ?_
    refine ke65 _ _ _ ?_
    refine ke61 _ _ _ ?_
    refine kb52 _ _ ?_
    refine kn41 _ _ ?_
    refine seqK fun Q289 kn290 kr291 ke292 => ?_
    refine region ?_
    refine st_q (v := .agg #[.string ((ByteArray.mk #[112])), .int .i64 ((2 : Nat) : Int), .slice aT i cT]) (x_loadA [.string ((ByteArray.mk #[112])), .int .i64 ((2 : Nat) : Int), .slice aT i cT] T.ag29 rfl (hB3.cells 0 [.string ((ByteArray.mk #[112])), .int .i64 ((2 : Nat) : Int), .slice aT i cT] (cells_at rfl))) ?_
    have hRT : ∀ t ∈ tp W, ∃ a b, t = [dg a, dg b] ∧ a < 10 ^ 15 ∧ b < 10 ^ 15 := fun t ht => by
      rw [hWt] at ht; unfold rowsT at ht; obtain ⟨j, hj, rfl⟩ := List.mem_map.1 ht
      have hj2 := List.mem_range.1 hj
      have hjb := hNb _ (el_mem' hj2)
      exact ⟨_, _, rfl, by omega, by omega⟩
    have hG : RightR 2 (tp W) ∧ ColsOK 2 [] := ⟨⟨fun t ht => by obtain ⟨a, b, rfl, _⟩ := hRT t ht; rfl, by decide, by decide⟩, fun k hk => absurd hk (by simp)⟩
    have hsz : SizeL W := fun x hx s hs => by
      obtain ⟨a, b, e, ha, hb⟩ := hRT x.2 (List.mem_map_of_mem hx)
      rw [e] at hs
      simp only [List.mem_cons, List.not_mem_nil, or_false] at hs
      rcases hs with rfl | rfl
      · exact Nat.le_trans (dg_size 14 a ha) (by unfold maxLen; omega)
      · exact Nat.le_trans (dg_size 14 b hb) (by unfold maxLen; omega)
    have hTs : Src w55.heap (.slice aT i cT) W.length 1 (flat enR W) := by rw [hWl]; exact hOT.src
    have hTW := hW.rowsP
    refine st_c (t_call [.agg #[.string ((ByteArray.mk #[112])), .int .i64 ((2 : Nat) : Int), .slice aT i cT], .int .i64 ((1 : Nat) : Int), .slice none 0 0] T.cf15 rfl rfl) (sums15 (ByteArray.mk #[112]) 2 W _ [] _ 1 _ hTs hTW (Src.nil _ _) (Nat.zero_le _) hG (by omega) (by decide) hsz (hT.below hx56)) ?_
    rintro _ w293 ⟨vg, A, GL, rfl, hx294, hO295, hKA, hAg, hGl, hFill, _⟩
    refine ⟨_, rfl, ?_⟩
    have hB296 := hB3.ext hx294
    have hF297 := hOT.ext hx294
    have hF298 := hW.ext hx294
    have hE299 : Below w0.heap.size w0 w293 := hx294.e hx56 (Nat.le_refl _)
    have hz300 := hE299.le
    have hs301 := hx294.size
    have hWG := whole_group hWt (by omega) hNb hAg hFill
    rw [hNl] at hWG
    obtain ⟨aG, cG, rfl, hcG, hcG1⟩ := hO295.src.form
    rw [← hGl] at hO295
    have hO302 := hO295.weak (lo' := w0.heap.size) (by omega)
    have hGm : GL.length = min 1 i := by omega
    refine st_q (v := .tuple #[.slice aG A.length cG, .int .i64 ((0 : Nat) : Int)]) (x_move rfl) ?_
    refine st_q (v := .slice aG A.length cG) (x_extract rfl rfl) ?_
    refine st_q (v := .int .i64 ((0 : Nat) : Int)) (x_extract rfl rfl) ?_
    refine st_q (v := .slice aG A.length cG) (x_assign rfl) ?_
    refine st_q (v := .int .i64 ((0 : Nat) : Int)) (x_assign rfl) ?_
    refine st_nil ?_
    refine kn290 _ _ ?_
    refine seqK fun Q303 kn304 kr305 ke306 => ?_
    refine seqK fun Q307 kn308 kr309 ke310 => ?_
    refine region ?_
    refine st_q (v := .int .i64 ((0 : Nat) : Int)) (x_move rfl) ?_
    refine st_c (t_call [.int .i64 ((0 : Nat) : Int)] T.cf16 rfl rfl) (num16 0 _) ?_
    rintro _ _ ⟨rfl, rfl⟩
    refine ⟨_, rfl, ?_⟩
    refine st_q (v := .bool (decide (0 ≠ 0))) (x_neqN rfl rfl) ?_
    refine st_if (p := 0 ≠ 0) (x_move rfl) (fun h311 => ?_) (fun h311 => ?_)
    ·
     exact absurd h311 (not_not_intro rfl)
    ·
     refine st_gq 3 61 rfl rfl (by decide) ?_
     refine st_q (v := .slice aG A.length cG) (x_move rfl) ?_
     refine st_gq 3 61 rfl rfl (by decide) ?_
     refine st_q (v := .int .i64 ((A.length : Nat) : Int)) (x_lenSl rfl Tryd.underlying32 rfl) ?_
     refine st_gq 3 61 rfl rfl (by decide) ?_
     refine st_q (v := .pointer (some ⟨w13.heap.size, 2, none⟩)) (x_field (o := 0) T.fa29_2 rfl) ?_
     refine st_gq 3 61 rfl rfl (by decide) ?_
     refine st_q (v := .slice aT i cT) (x_load1 T.na27 rfl (hB296.one 2 rfl)) ?_
     refine st_gq 3 61 rfl rfl (by decide) ?_
     refine st_q (v := .int .i64 ((i : Nat) : Int)) (x_lenSl rfl Tryd.underlying27 rfl) ?_
     refine st_gq 3 61 rfl rfl (by decide) ?_
     refine st_q (v := .int .i64 (((min 1 i) : Nat) : Int)) (x_minN rfl rfl) ?_
     refine st_gq 3 61 rfl rfl (by decide) ?_
     refine st_q (v := .bool (decide (A.length ≠ ((min 1 i))))) (x_neqN rfl rfl) ?_
     refine st_q (v := .bool (decide (A.length ≠ ((min 1 i))))) (x_pickF rfl rfl) ?_
     refine st_nil ?_
     refine kn308 _ _ ?_
     refine cnd (p := A.length ≠ ((min 1 i))) rfl (fun h312 => ?_) (fun h312 => ?_)
     ·
      exact absurd h312 (not_not_intro hWG.1)
     ·
      refine skip ?_
      refine kn304 _ _ ?_
      refine seqK fun Q313 kn314 kr315 ke316 => ?_
      refine seqK fun Q317 kn318 kr319 ke320 => ?_
      refine region ?_
      refine st_q (v := .slice aG A.length cG) (x_move rfl) ?_
      refine st_q (v := .int .i64 ((A.length : Nat) : Int)) (x_lenSl rfl Tryd.underlying32 rfl) ?_
      refine st_q (v := .bool (decide (A.length = 0))) (x_eqlN rfl rfl) ?_
      refine st_nil ?_
      refine kn318 _ _ ?_
      refine cnd (p := A.length = 0) rfl (fun h321 => ?_) (fun h321 => ?_)
      ·
       refine seqK fun Q322 kn323 kr324 ke325 => ?_
       refine region ?_
       refine st_q (v := .bool true) (x_assign rfl) ?_
       refine st_nil ?_
       refine kn323 _ _ ?_
       refine ret ?_
       refine kr315 _ _ ?_
       refine leave1 (P := Tryd.prog) (fn := Tryd.f7) (t := 2) (v := .bool true) rfl rfl ?_
       exact ⟨rfl, hE299⟩
      ·
       refine skip ?_
       refine kn314 _ _ ?_
       refine seqK fun Q326 kn327 kr328 ke329 => ?_
       refine region ?_
       refine st_q (v := .slice aG A.length cG) (x_move rfl) ?_
       have hlG : ∀ z, Value.ownBlock (.slice aG GL.length cG) = some z → z < w293.heap.size := fun z e => (hO302.lt e).2
       have hi0 : 0 < i := by omega
       have hlo3 : lo ∈ ((ls.take i).map absm) := hlo2.resolve_right (fun h => by omega)
       obtain ⟨g1, hg1, hge⟩ := hgr2.resolve_right (fun h => by omega)
       obtain ⟨hWc, hWU⟩ := hWG.2 hi0 lo g1 ⟨hlo3, hlo1⟩ ⟨hg1, fun x hx => by have := hgr1 x hx; omega⟩
       have hU1 := hWU.numbers
       rw [hNl, ← hWc] at hU1
       have hU2 := hWU.sum
       rw [← hsm] at hU2
       have hU3 := hWU.least
       have hU4 := hWU.greatest
       rw [← hge] at hU4
       have hU5 : (Flt.D.order (el GL 0).spread 0 = some .eq) ↔ (((lo : Nat) : Int) = gr) := hWU.spread.trans (by omega)
       obtain ⟨b330, o331, ha332, hc333⟩ := hO302.src.at (by omega)
       refine st_q (v := .pointer (some ⟨b330, o331 + 0 * 8, none⟩)) (x_index' T.sl32 rfl ha332 rfl (by omega)) ?_
       refine st_q (v := .agg #[.slice ((el GL 0).q) ((el GL 0).key.length) ((el GL 0).c), .int .i64 ((el GL 0).count), .int .i64 ((el GL 0).numbers), .float .f64 ((el GL 0).sum), .float .f64 ((el GL 0).mean), .float .f64 ((el GL 0).spread), .float .f64 ((el GL 0).least), .float .f64 ((el GL 0).greatest)]) (x_loadA [.slice ((el GL 0).q) ((el GL 0).key.length) ((el GL 0).c), .int .i64 ((el GL 0).count), .int .i64 ((el GL 0).numbers), .float .f64 ((el GL 0).sum), .float .f64 ((el GL 0).mean), .float .f64 ((el GL 0).spread), .float .f64 ((el GL 0).least), .float .f64 ((el GL 0).greatest)] T.ag44 rfl (hc333.elem enG_len (i := 0) (by omega))) ?_
       refine st_e (e_alloc T.zv44 ?_)
       intro w334 hA335
       have hx336 := hA335.ext
       have hs337 := hA335.size
       have hB338 : Blk w334.heap w293.heap.size [.slice none 0 0, .int .i64 ((0 : Nat) : Int), .int .i64 ((0 : Nat) : Int), .float .f64 0, .float .f64 0, .float .f64 0, .float .f64 0, .float .f64 0] 44 := hA335.new
       have hB339 := hB296.ext hx336
       have hF340 := hF297.ext hx336
       have hF341 := hF298.ext hx336
       have hF342 := hO302.ext hx336
       have hF343 := hc333.ext hx336
       have hE344 : Below w0.heap.size w0 w334 := hx336.e hE299 (Nat.le_refl _)
       have hz345 := hE344.le
       have hs346 := hx336.size
       refine st_s (e_st (v := .agg #[.slice ((el GL 0).q) ((el GL 0).key.length) ((el GL 0).c), .int .i64 ((el GL 0).count), .int .i64 ((el GL 0).numbers), .float .f64 ((el GL 0).sum), .float .f64 ((el GL 0).mean), .float .f64 ((el GL 0).spread), .float .f64 ((el GL 0).least), .float .f64 ((el GL 0).greatest)]) T.sz44 rfl rfl hB338 (by simp [Value.cells]) (by rfl) ?_)
       intro w347 hP348
       have hB349 : Blk w347.heap w293.heap.size [.slice ((el GL 0).q) ((el GL 0).key.length) ((el GL 0).c), .int .i64 ((el GL 0).count), .int .i64 ((el GL 0).numbers), .float .f64 ((el GL 0).sum), .float .f64 ((el GL 0).mean), .float .f64 ((el GL 0).spread), .float .f64 ((el GL 0).least), .float .f64 ((el GL 0).greatest)] 44 := hP348.new
       have hs350 := hP348.size
       have hB351 := hB339.gk (hP348.grownBy) (hB338.rowk) (by decide)
       have hF352 := hF340.gk (hP348.grownBy) (hB338.rowk) (by decide)
       have hF353 := hF341.gk (hP348.grownBy) (hB338.rowk) (by decide)
       have hF354 := hF342.pt hP348 (by intro e; have := hlG _ e; omega)
       have hE356 : Below w0.heap.size w0 w347 := hP348.below hE344 (by omega)
       have hz357 := hE356.le
       refine st_nil ?_
       refine kn327 _ _ ?_
       refine seqK fun Q358 kn359 kr360 ke361 => ?_
       refine seqK fun Q362 kn363 kr364 ke365 => ?_
       refine region ?_
       refine st_q (v := .pointer (some ⟨w293.heap.size, 1, none⟩)) (x_field (o := 0) T.fa44_1 rfl) ?_
       refine st_q (v := .int .i64 ((el GL 0).count)) (x_load1 T.na3 rfl (hB349.one 1 rfl)) ?_
       refine st_q (v := .pointer (some ⟨w13.heap.size, 2, none⟩)) (x_field (o := 0) T.fa29_2 rfl) ?_
       refine st_q (v := .slice aT i cT) (x_load1 T.na27 rfl (hB351.one 2 rfl)) ?_
       refine st_q (v := .int .i64 ((i : Nat) : Int)) (x_lenSl rfl Tryd.underlying27 rfl) ?_
       refine st_q (v := .bool (decide (((el GL 0).count) ≠ (((i : Nat) : Int))))) (x_neq rfl rfl) ?_
       refine st_if (p := ((el GL 0).count) ≠ (((i : Nat) : Int))) (x_move rfl) (fun h366 => ?_) (fun h366 => ?_)
       ·
        exact absurd h366 (not_not_intro hWc)
       ·
        refine st_gq 6 82 rfl rfl (by decide) ?_
        refine st_q (v := .pointer (some ⟨w293.heap.size, 2, none⟩)) (x_field (o := 0) T.fa44_2 rfl) ?_
        refine st_gq 6 82 rfl rfl (by decide) ?_
        refine st_q (v := .int .i64 ((el GL 0).numbers)) (x_load1 T.na3 rfl (hB349.one 2 rfl)) ?_
        refine st_gq 6 82 rfl rfl (by decide) ?_
        refine st_q (v := .pointer (some ⟨w293.heap.size, 1, none⟩)) (x_field (o := 0) T.fa44_1 rfl) ?_
        refine st_gq 6 82 rfl rfl (by decide) ?_
        refine st_q (v := .int .i64 ((el GL 0).count)) (x_load1 T.na3 rfl (hB349.one 1 rfl)) ?_
        refine st_gq 6 82 rfl rfl (by decide) ?_
        refine st_q (v := .bool (decide (((el GL 0).numbers) ≠ ((el GL 0).count)))) (x_neq rfl rfl) ?_
        refine st_q (v := .bool (decide (((el GL 0).numbers) ≠ ((el GL 0).count)))) (x_pickF rfl rfl) ?_
        refine st_if (p := ((el GL 0).numbers) ≠ ((el GL 0).count)) (x_move rfl) (fun h367 => ?_) (fun h367 => ?_)
        ·
         exact absurd h367 (not_not_intro hU1)
        ·
         refine st_gq 13 89 rfl rfl (by decide) ?_
         refine st_q (v := .pointer (some ⟨w293.heap.size, 3, none⟩)) (x_field (o := 0) T.fa44_3 rfl) ?_
         refine st_gq 13 89 rfl rfl (by decide) ?_
         refine st_q (v := .float .f64 ((el GL 0).sum)) (x_load1 T.na22 rfl (hB349.one 3 rfl)) ?_
         refine st_gq 13 89 rfl rfl (by decide) ?_
         refine st_q (v := .int .i64 ((sm : Nat) : Int)) (x_move rfl) ?_
         refine st_gq 13 89 rfl rfl (by decide) ?_
         refine st_q (v := .float .f64 ((fromInt (((sm : Nat) : Int))))) (x_convF Tryd.underlying22 Tryd.underlying3 rfl) ?_
         refine st_gq 13 89 rfl rfl (by decide) ?_
         refine st_q (v := .bool (decide (¬ (Flt.D.order ((el GL 0).sum) ((fromInt (((sm : Nat) : Int)))) = some .eq)))) (x_neqF rfl rfl) ?_
         refine st_q (v := .bool (decide (¬ (Flt.D.order ((el GL 0).sum) ((fromInt (((sm : Nat) : Int)))) = some .eq)))) (x_pickF rfl rfl) ?_
         refine st_if (p := ¬ (Flt.D.order ((el GL 0).sum) ((fromInt (((sm : Nat) : Int)))) = some .eq)) (x_move rfl) (fun h368 => ?_) (fun h368 => ?_)
         ·
          exact absurd h368 (not_not_intro hU2)
         ·
          refine st_gq 20 96 rfl rfl (by decide) ?_
          refine st_q (v := .pointer (some ⟨w293.heap.size, 6, none⟩)) (x_field (o := 0) T.fa44_6 rfl) ?_
          refine st_gq 20 96 rfl rfl (by decide) ?_
          refine st_q (v := .float .f64 ((el GL 0).least)) (x_load1 T.na22 rfl (hB349.one 6 rfl)) ?_
          refine st_gq 20 96 rfl rfl (by decide) ?_
          refine st_q (v := .int .i64 ((lo : Nat) : Int)) (x_move rfl) ?_
          refine st_gq 20 96 rfl rfl (by decide) ?_
          refine st_q (v := .float .f64 ((fromInt (((lo : Nat) : Int))))) (x_convF Tryd.underlying22 Tryd.underlying3 rfl) ?_
          refine st_gq 20 96 rfl rfl (by decide) ?_
          refine st_q (v := .bool (decide (¬ (Flt.D.order ((el GL 0).least) ((fromInt (((lo : Nat) : Int)))) = some .eq)))) (x_neqF rfl rfl) ?_
          refine st_q (v := .bool (decide (¬ (Flt.D.order ((el GL 0).least) ((fromInt (((lo : Nat) : Int)))) = some .eq)))) (x_pickF rfl rfl) ?_
          refine st_if (p := ¬ (Flt.D.order ((el GL 0).least) ((fromInt (((lo : Nat) : Int)))) = some .eq)) (x_move rfl) (fun h369 => ?_) (fun h369 => ?_)
          ·
           exact absurd h369 (not_not_intro hU3)
          ·
           refine st_gq 27 103 rfl rfl (by decide) ?_
           refine st_q (v := .pointer (some ⟨w293.heap.size, 7, none⟩)) (x_field (o := 0) T.fa44_7 rfl) ?_
           refine st_gq 27 103 rfl rfl (by decide) ?_
           refine st_q (v := .float .f64 ((el GL 0).greatest)) (x_load1 T.na22 rfl (hB349.one 7 rfl)) ?_
           refine st_gq 27 103 rfl rfl (by decide) ?_
           refine st_q (v := .int .i64 gr) (x_move rfl) ?_
           refine st_gq 27 103 rfl rfl (by decide) ?_
           refine st_q (v := .float .f64 ((fromInt gr))) (x_convF Tryd.underlying22 Tryd.underlying3 rfl) ?_
           refine st_gq 27 103 rfl rfl (by decide) ?_
           refine st_q (v := .bool (decide (¬ (Flt.D.order ((el GL 0).greatest) ((fromInt gr)) = some .eq)))) (x_neqF rfl rfl) ?_
           refine st_q (v := .bool (decide (¬ (Flt.D.order ((el GL 0).greatest) ((fromInt gr)) = some .eq)))) (x_pickF rfl rfl) ?_
           refine st_nil ?_
           refine kn363 _ _ ?_
           refine cnd (p := ¬ (Flt.D.order ((el GL 0).greatest) ((fromInt gr)) = some .eq)) rfl (fun h370 => ?_) (fun h370 => ?_)
           ·
            exact absurd h370 (not_not_intro hU4)
           ·
            refine skip ?_
            refine kn359 _ _ ?_
            refine seqK fun Q371 kn372 kr373 ke374 => ?_
            refine region ?_
            refine st_q (v := .pointer (some ⟨w293.heap.size, 4, none⟩)) (x_field (o := 0) T.fa44_4 rfl) ?_
            refine st_q (v := .float .f64 ((el GL 0).mean)) (x_load1 T.na22 rfl (hB349.one 4 rfl)) ?_
            refine st_q (v := .pointer (some ⟨w293.heap.size, 6, none⟩)) (x_field (o := 0) T.fa44_6 rfl) ?_
            refine st_q (v := .float .f64 ((el GL 0).least)) (x_load1 T.na22 rfl (hB349.one 6 rfl)) ?_
            refine st_q (v := .bool (decide (Flt.D.order ((el GL 0).mean) ((el GL 0).least) = some .gt ∨ Flt.D.order ((el GL 0).mean) ((el GL 0).least) = some .eq))) (x_geqF rfl rfl) ?_
            refine st_if (p := Flt.D.order ((el GL 0).mean) ((el GL 0).least) = some .gt ∨ Flt.D.order ((el GL 0).mean) ((el GL 0).least) = some .eq) (x_move rfl) (fun h375 => ?_) (fun h375 => ?_)
            ·
             refine st_gq 5 115 rfl rfl (by decide) ?_
             refine st_q (v := .pointer (some ⟨w293.heap.size, 4, none⟩)) (x_field (o := 0) T.fa44_4 rfl) ?_
             refine st_gq 5 115 rfl rfl (by decide) ?_
             refine st_q (v := .float .f64 ((el GL 0).mean)) (x_load1 T.na22 rfl (hB349.one 4 rfl)) ?_
             refine st_gq 5 115 rfl rfl (by decide) ?_
             refine st_q (v := .pointer (some ⟨w293.heap.size, 7, none⟩)) (x_field (o := 0) T.fa44_7 rfl) ?_
             refine st_gq 5 115 rfl rfl (by decide) ?_
             refine st_q (v := .float .f64 ((el GL 0).greatest)) (x_load1 T.na22 rfl (hB349.one 7 rfl)) ?_
             refine st_gq 5 115 rfl rfl (by decide) ?_
             refine st_q (v := .bool (decide (Flt.D.order ((el GL 0).mean) ((el GL 0).greatest) = some .lt ∨ Flt.D.order ((el GL 0).mean) ((el GL 0).greatest) = some .eq))) (x_leqF rfl rfl) ?_
             refine st_q (v := .bool (decide (Flt.D.order ((el GL 0).mean) ((el GL 0).greatest) = some .lt ∨ Flt.D.order ((el GL 0).mean) ((el GL 0).greatest) = some .eq))) (x_pickT rfl rfl) ?_
             refine st_if (p := Flt.D.order ((el GL 0).mean) ((el GL 0).greatest) = some .lt ∨ Flt.D.order ((el GL 0).mean) ((el GL 0).greatest) = some .eq) (x_move rfl) (fun h376 => ?_) (fun h376 => ?_)
             ·
              refine st_gq 12 122 rfl rfl (by decide) ?_
              refine st_q (v := .pointer (some ⟨w293.heap.size, 5, none⟩)) (x_field (o := 0) T.fa44_5 rfl) ?_
              refine st_gq 12 122 rfl rfl (by decide) ?_
              refine st_q (v := .float .f64 ((el GL 0).spread)) (x_load1 T.na22 rfl (hB349.one 5 rfl)) ?_
              refine st_gq 12 122 rfl rfl (by decide) ?_
              refine st_q (v := .bool (decide (Flt.D.order ((el GL 0).spread) 0 = some .eq))) (x_eqlF rfl rfl) ?_
              refine st_gq 12 122 rfl rfl (by decide) ?_
              refine st_q (v := .int .i64 ((lo : Nat) : Int)) (x_move rfl) ?_
              refine st_gq 12 122 rfl rfl (by decide) ?_
              refine st_q (v := .int .i64 gr) (x_move rfl) ?_
              refine st_gq 12 122 rfl rfl (by decide) ?_
              refine st_q (v := .bool (decide ((((lo : Nat) : Int)) = gr))) (x_eql rfl rfl) ?_
              refine st_gq 12 122 rfl rfl (by decide) ?_
              refine st_q (v := .bool (decide ((Flt.D.order ((el GL 0).spread) 0 = some .eq) ↔ ((((lo : Nat) : Int)) = gr)))) (x_eqlB Tryd.underlying4 rfl rfl) ?_
              refine st_q (v := .bool (decide ((Flt.D.order ((el GL 0).spread) 0 = some .eq) ↔ ((((lo : Nat) : Int)) = gr)))) (x_pickT rfl rfl) ?_
              refine st_q (v := .bool (decide ((Flt.D.order ((el GL 0).spread) 0 = some .eq) ↔ ((((lo : Nat) : Int)) = gr)))) (x_assign rfl) ?_
              refine st_nil ?_
              refine kn372 _ _ ?_
              refine ret ?_
              refine leave1 (P := Tryd.prog) (fn := Tryd.f7) (t := 2) (v := .bool (decide ((Flt.D.order ((el GL 0).spread) 0 = some .eq) ↔ ((((lo : Nat) : Int)) = gr)))) rfl rfl ?_
              exact ⟨by rw [decide_eq_true hU5], hE356⟩
             ·
              exact absurd h376 (not_not_intro hWU.mhi)
            ·
             exact absurd h375 (not_not_intro hWU.mlo)

end Go.Proofs.YtegpcbckiehleaaDoor
