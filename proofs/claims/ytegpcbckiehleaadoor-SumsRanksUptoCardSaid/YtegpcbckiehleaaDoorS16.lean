import Derived.Test.YtegpcbckiehleaaDoorS15
namespace Go.Proofs.YtegpcbckiehleaaDoor
open Go.RowKit Go.Eng Go.OrdPure Go.Flt
theorem T.cf12 : CF Tryd.prog 12 := fun _ _ => by kernel_rfl
theorem T.cf20 : CF Tryd.prog 20 := fun _ _ => by kernel_rfl
theorem T.cf18 : CF Tryd.prog 18 := fun _ _ => by kernel_rfl

/-- what Rank tells: the error's number, the list -/
def rkE (ar c : Int) (P : List Tup) : Int := if rightB ar P [c] then 0 else 2
def rkL (ar c : Int) (P : List Tup) : List ByteArray := if rightB ar P [c] then rankL (P.map fun t => el t c.toNat) else []
theorem right_nat {ar c : Int} {P : List Tup} (h : rightB ar P [c]) : ∃ n : Nat, c = ((n : Nat) : Int) := by
  have hC := h.2 0 (by simp)
  have h1 : el [c] 0 = c := rfl
  rw [h1] at hC
  unfold badC at hC
  have h2 := of_decide_eq_false hC
  exact ⟨c.toNat, by omega⟩
theorem rank19all (pr : ByteArray) (ar : Int) (L : List Row) (va : Value) (c : Int) (w0 : World) (ha : Src w0.heap va L.length 1 (flat enR L)) (hL : RowsP w0.heap L) (hn : L.length ≤ 1466015503701) (hsz : SizeL L) (hT : Laid w0) : Calls Tryd.prog 19 #[.agg #[.string pr, .int .i64 ar, va], .int .i64 c] w0 fun e w' => ∃ v, e = .returned (.tuple #[v, .int .i64 (rkE ar c (tp L))]) ∧ Ext w0 w' ∧ Own w'.heap w0.heap.size 9 1 v (rkL ar c (tp L)).length (flat enS (rkL ar c (tp L))) := by
  unfold rkE rkL
  by_cases h : rightB ar (tp L) [c]
  · obtain ⟨n, rfl⟩ := right_nat h
    rw [if_pos h, if_pos h]
    exact rank19 pr ar L va n w0 ha hL h hn hsz hT
  · rw [if_neg h, if_neg h]
    exact (rank19e pr ar L va c w0 ha hL h).mono fun e w' ⟨h1, h2⟩ => ⟨_, h1, h2, Own.nil _ _ _ _⟩
theorem refrank20all (pr : ByteArray) (ar : Int) (L : List Row) (va : Value) (c : Int) (w0 : World) (ha : Src w0.heap va L.length 1 (flat enR L)) (hL : RowsP w0.heap L) (hn : L.length ≤ 1466015503701) (hsz : SizeL L) : Calls Tryd.prog 20 #[.agg #[.string pr, .int .i64 ar, va], .int .i64 c] w0 fun e w' => ∃ v, e = .returned (.tuple #[v, .int .i64 (rkE ar c (tp L))]) ∧ Ext w0 w' ∧ Own w'.heap w0.heap.size 9 1 v (rkL ar c (tp L)).length (flat enS (rkL ar c (tp L))) := by
  unfold rkE rkL
  by_cases h : rightB ar (tp L) [c]
  · obtain ⟨n, rfl⟩ := right_nat h
    rw [if_pos h, if_pos h]
    exact refrank20 pr ar L va n w0 ha hL (cols_one.2 h) hn hsz
  · rw [if_neg h, if_neg h]
    exact (refrank20e pr ar L va c w0 ha hL (fun h2 => h (cols_one.1 h2))).mono fun e w' ⟨h1, h2⟩ => ⟨_, h1, h2, Own.nil _ _ _ _⟩
theorem size_tp {L M : List Row} (h : tp M = tp L) (hs : SizeL L) : SizeL M := fun x hx s hm => by
  have h1 : x.2 ∈ tp L := h ▸ List.mem_map_of_mem hx
  obtain ⟨y, hy, e⟩ := List.mem_map.1 h1
  exact hs y hy s (by rw [e]; exact hm)
theorem len_tp {L M : List Row} (h : tp M = tp L) : M.length = L.length := by have := congrArg List.length h; rwa [tp_len, tp_len] at this
theorem rank19m (pr : ByteArray) (ar : Int) (L M : List Row) (hMP : tp M = tp L) (va : Value) (c : Int) (w0 : World) (ha : Src w0.heap va M.length 1 (flat enR M)) (hL : RowsP w0.heap M) (hn : M.length ≤ 1466015503701) (hsz : SizeL M) (hT : Laid w0) : Calls Tryd.prog 19 #[.agg #[.string pr, .int .i64 ar, va], .int .i64 c] w0 fun e w' => ∃ v, e = .returned (.tuple #[v, .int .i64 (rkE ar c (tp L))]) ∧ Ext w0 w' ∧ Own w'.heap w0.heap.size 9 1 v (rkL ar c (tp L)).length (flat enS (rkL ar c (tp L))) := by
  have h := rank19all pr ar M va c w0 ha hL hn hsz hT
  rw [hMP] at h; exact h
theorem rkL_len (ar c : Int) (P : List Tup) : (rkL ar c P).length ≤ P.length := by
  unfold rkL
  split
  · unfold rankL; refine Nat.le_trans (ddL_len _) ?_; rw [srt_length, List.length_map]; exact Nat.le_refl _
  · exact Nat.zero_le _
set_option maxHeartbeats 4000000 in
theorem ranks5 (pr : ByteArray) (ar : Int) (L : List Row) (va : Value) (c : Int) (w0 : World) (ha : Src w0.heap va L.length 1 (flat enR L)) (hL : RowsP w0.heap L) (hn : L.length ≤ 1048576) (hw : ∀ x ∈ L, x.2.length ≤ 4398046511104) (hsz : SizeL L) (hT : Laid w0) : Calls Tryd.prog 5 #[.agg #[.string pr, .int .i64 ar, va], .int .i64 c] w0 fun e w' => e = .returned (.bool true) ∧ Ext w0 w' := by
  have hE0 : Below w0.heap.size w0 w0 := Below.refl _ _
  have hz0 := hE0.le
  obtain ⟨a, ca, rfl, hca, hca1⟩ := ha.form
  have hXl := rkL_len ar c (tp L)
  rw [tp_len] at hXl
  refine enter Tryd.func5 rfl 83 Tryd.ntmps5 rfl ?_
  refine seqK fun Q1 kn2 kr3 ke4 => ?_
  refine region ?_
  refine st_e (e_box (v := .agg #[.string pr, .int .i64 ar, .slice a L.length ca]) rfl ?_)
  intro w5 hA6
  have hx7 := hA6.ext
  have hs8 := hA6.size
  have hB9 : Blk w5.heap w0.heap.size [.string pr, .int .i64 ar, .slice a L.length ca] 29 := hA6.new
  have hE10 : Below w0.heap.size w0 w5 := hx7.e hE0 (Nat.le_refl _)
  have hz11 := hE10.le
  have hs12 := hx7.size
  refine st_q (v := .bool false) (x_assign rfl) ?_
  refine st_nil ?_
  refine kn2 _ _ ?_
  refine seqK fun Q13 kn14 kr15 ke16 => ?_
  refine region ?_
  refine st_q (v := .agg #[.string pr, .int .i64 ar, .slice a L.length ca]) (x_loadA [.string pr, .int .i64 ar, .slice a L.length ca] T.ag29 rfl (hB9.cells 0 [.string pr, .int .i64 ar, .slice a L.length ca] (cells_at rfl))) ?_
  refine st_c (t_call [.agg #[.string pr, .int .i64 ar, .slice a L.length ca]] T.cf12 rfl rfl) (lent12 pr ar L _ _ (ha.below hE10) (RowsP.below hL hE10) hn hw) ?_
  rintro _ w17 ⟨am, cm, M, rfl, hx18, hMP, hLt⟩
  refine ⟨_, rfl, ?_⟩
  have hB19 := hB9.ext hx18
  have hE20 : Below w0.heap.size w0 w17 := hx18.e hE10 (Nat.le_refl _)
  have hz21 := hE20.le
  have hs22 := hx18.size
  have hszM := size_tp hMP hsz
  have hMl := len_tp hMP
  have hLM : Ext w17 w17 := Below.refl _ _
  refine st_e (e_alloc T.zv29 ?_)
  intro w23 hA24
  have hx25 := hA24.ext
  have hs26 := hA24.size
  have hB27 : Blk w23.heap w17.heap.size [.string ByteArray.empty, .int .i64 ((0 : Nat) : Int), .slice none 0 0] 29 := hA24.new
  have hB28 := hB19.ext hx25
  have hF29 := hx25.e hLM (Nat.le_refl _)
  have hE30 : Below w0.heap.size w0 w23 := hx25.e hE20 (Nat.le_refl _)
  have hz31 := hE30.le
  have hs32 := hx25.size
  refine st_s (e_st (v := .agg #[.string pr, .int .i64 ar, .slice am M.length cm]) T.sz29 rfl rfl hB27 (by simp [Value.cells]) (by rfl) ?_)
  intro w33 hP34
  have hB35 : Blk w33.heap w17.heap.size [.string pr, .int .i64 ar, .slice am M.length cm] 29 := hP34.new
  have hs36 := hP34.size
  have hB37 := hB28.pt hP34 (by omega)
  have hF38 := hP34.below hF29 (by omega)
  have hE39 : Below w0.heap.size w0 w33 := hP34.below hE30 (by omega)
  have hz40 := hE39.le
  refine st_nil ?_
  refine kn14 _ _ ?_
  refine seqK fun Q41 kn42 kr43 ke44 => ?_
  refine region ?_
  refine st_q (v := .agg #[.string pr, .int .i64 ar, .slice am M.length cm]) (x_loadA [.string pr, .int .i64 ar, .slice am M.length cm] T.ag29 rfl (hB35.cells 0 [.string pr, .int .i64 ar, .slice am M.length cm] (cells_at rfl))) ?_
  refine st_q (v := .int .i64 c) (x_move rfl) ?_
  have hloA : w0.heap.size ≤ w33.heap.size := by omega
  refine st_c (t_call [.agg #[.string pr, .int .i64 ar, .slice am M.length cm], .int .i64 c] T.cf19 rfl rfl) (rank19m pr ar L M hMP _ c _ (hLt.ext hF38).src (hLt.ext hF38).rowsP (by omega) hszM (hT.below hE39)) ?_
  rintro _ w45 ⟨vA, rfl, hx46, hO47⟩
  refine ⟨_, rfl, ?_⟩
  have hB48 := hB37.ext hx46
  have hB49 := hB35.ext hx46
  have hF50 := hx46.e hF38 (Nat.le_refl _)
  have hE51 : Below w0.heap.size w0 w45 := hx46.e hE39 (Nat.le_refl _)
  have hz52 := hE51.le
  have hs53 := hx46.size
  obtain ⟨aA, cA, rfl, hcA, hcA1⟩ := hO47.src.form
  have hblkA : ∀ z, Value.ownBlock (.slice aA (rkL ar c (tp L)).length cA) = some z → w33.heap.size ≤ z ∧ z < w45.heap.size := fun z e => hO47.lt e
  have hOA := hO47.weak (lo' := w0.heap.size) (by omega)
  refine st_q (v := .tuple #[.slice aA ((rkL ar c (tp L)).length) cA, .int .i64 ((rkE ar c (tp L)))]) (x_move rfl) ?_
  refine st_q (v := .slice aA ((rkL ar c (tp L)).length) cA) (x_extract rfl rfl) ?_
  refine st_q (v := .int .i64 ((rkE ar c (tp L)))) (x_extract rfl rfl) ?_
  refine st_q (v := .slice aA ((rkL ar c (tp L)).length) cA) (x_assign rfl) ?_
  refine st_q (v := .int .i64 ((rkE ar c (tp L)))) (x_assign rfl) ?_
  refine st_nil ?_
  refine kn42 _ _ ?_
  refine seqK fun Q54 kn55 kr56 ke57 => ?_
  refine region ?_
  refine st_q (v := .agg #[.string pr, .int .i64 ar, .slice am M.length cm]) (x_loadA [.string pr, .int .i64 ar, .slice am M.length cm] T.ag29 rfl (hB49.cells 0 [.string pr, .int .i64 ar, .slice am M.length cm] (cells_at rfl))) ?_
  refine st_q (v := .int .i64 c) (x_move rfl) ?_
  have hloB : w0.heap.size ≤ w45.heap.size := by omega
  refine st_c (t_call [.agg #[.string pr, .int .i64 ar, .slice am M.length cm], .int .i64 c] T.cf19 rfl rfl) (rank19m pr ar L M hMP _ c _ (hLt.ext hF50).src (hLt.ext hF50).rowsP (by omega) hszM (hT.below hE51)) ?_
  rintro _ w58 ⟨vB, rfl, hx59, hO60⟩
  refine ⟨_, rfl, ?_⟩
  have hB61 := hB48.ext hx59
  have hB62 := hB49.ext hx59
  have hF63 := hx59.e hF50 (Nat.le_refl _)
  have hF64 := hOA.ext hx59
  have hE65 : Below w0.heap.size w0 w58 := hx59.e hE51 (Nat.le_refl _)
  have hz66 := hE65.le
  have hs67 := hx59.size
  obtain ⟨aB, cB, rfl, hcB, hcB1⟩ := hO60.src.form
  have hblkB : ∀ z, Value.ownBlock (.slice aB (rkL ar c (tp L)).length cB) = some z → w45.heap.size ≤ z ∧ z < w58.heap.size := fun z e => hO60.lt e
  have hOB := hO60.weak (lo' := w0.heap.size) (by omega)
  refine st_q (v := .tuple #[.slice aB ((rkL ar c (tp L)).length) cB, .int .i64 ((rkE ar c (tp L)))]) (x_move rfl) ?_
  refine st_q (v := .slice aB ((rkL ar c (tp L)).length) cB) (x_extract rfl rfl) ?_
  refine st_q (v := .int .i64 ((rkE ar c (tp L)))) (x_extract rfl rfl) ?_
  refine st_q (v := .slice aB ((rkL ar c (tp L)).length) cB) (x_assign rfl) ?_
  refine st_q (v := .int .i64 ((rkE ar c (tp L)))) (x_assign rfl) ?_
  refine st_nil ?_
  refine kn55 _ _ ?_
  refine seqK fun Q68 kn69 kr70 ke71 => ?_
  refine region ?_
  refine st_q (v := .agg #[.string pr, .int .i64 ar, .slice a L.length ca]) (x_loadA [.string pr, .int .i64 ar, .slice a L.length ca] T.ag29 rfl (hB61.cells 0 [.string pr, .int .i64 ar, .slice a L.length ca] (cells_at rfl))) ?_
  refine st_q (v := .int .i64 c) (x_move rfl) ?_
  refine st_c (t_call [.agg #[.string pr, .int .i64 ar, .slice a L.length ca], .int .i64 c] T.cf20 rfl rfl) (refrank20all pr ar L _ c _ (ha.below hE65) (RowsP.below hL hE65) (by omega) hsz) ?_
  rintro _ w72 ⟨vW, rfl, hx73, hO74⟩
  refine ⟨_, rfl, ?_⟩
  have hB75 := hB61.ext hx73
  have hB76 := hB62.ext hx73
  have hF77 := hx73.e hF63 (Nat.le_refl _)
  have hF78 := hF64.ext hx73
  have hF79 := hOB.ext hx73
  have hE80 : Below w0.heap.size w0 w72 := hx73.e hE65 (Nat.le_refl _)
  have hz81 := hE80.le
  have hs82 := hx73.size
  obtain ⟨aW, cW, rfl, hcW, hcW1⟩ := hO74.src.form
  have hblkW : ∀ z, Value.ownBlock (.slice aW (rkL ar c (tp L)).length cW) = some z → w58.heap.size ≤ z ∧ z < w72.heap.size := fun z e => hO74.lt e
  have hOW := hO74.weak (lo' := w0.heap.size) (by omega)
  refine st_q (v := .tuple #[.slice aW ((rkL ar c (tp L)).length) cW, .int .i64 ((rkE ar c (tp L)))]) (x_move rfl) ?_
  refine st_q (v := .slice aW ((rkL ar c (tp L)).length) cW) (x_extract rfl rfl) ?_
  refine st_q (v := .int .i64 ((rkE ar c (tp L)))) (x_extract rfl rfl) ?_
  refine st_q (v := .slice aW ((rkL ar c (tp L)).length) cW) (x_assign rfl) ?_
  refine st_q (v := .int .i64 ((rkE ar c (tp L)))) (x_assign rfl) ?_
  refine st_nil ?_
  refine kn69 _ _ ?_
  refine seqK fun Q83 kn84 kr85 ke86 => ?_
  refine seqK fun Q87 kn88 kr89 ke90 => ?_
  refine region ?_
  refine st_q (v := .int .i64 ((rkE ar c (tp L)))) (x_move rfl) ?_
  refine st_c (t_call [.int .i64 ((rkE ar c (tp L)))] T.cf16 rfl rfl) (num16 ((rkE ar c (tp L))) _) ?_
  rintro _ _ ⟨rfl, rfl⟩
  refine ⟨_, rfl, ?_⟩
  refine st_q (v := .int .i64 ((rkE ar c (tp L)))) (x_move rfl) ?_
  refine st_q (v := .bool (decide (((rkE ar c (tp L))) ≠ ((rkE ar c (tp L)))))) (x_neq rfl rfl) ?_
  refine st_if (p := ((rkE ar c (tp L))) ≠ ((rkE ar c (tp L)))) (x_move rfl) (fun h91 => ?_) (fun h91 => ?_)
  ·
    exact absurd h91 (not_not_intro rfl)
  ·
    refine st_gq 4 38 rfl rfl (by decide) ?_
    refine st_q (v := .int .i64 ((rkE ar c (tp L)))) (x_move rfl) ?_
    refine st_gq 4 38 rfl rfl (by decide) ?_
    refine st_c (t_call [.int .i64 ((rkE ar c (tp L)))] T.cf16 rfl rfl) (num16 ((rkE ar c (tp L))) _) ?_
    rintro _ _ ⟨rfl, rfl⟩
    refine ⟨_, rfl, ?_⟩
    refine st_gq 4 38 rfl rfl (by decide) ?_
    refine st_q (v := .int .i64 ((rkE ar c (tp L)))) (x_move rfl) ?_
    refine st_gq 4 38 rfl rfl (by decide) ?_
    refine st_q (v := .bool (decide (((rkE ar c (tp L))) ≠ ((rkE ar c (tp L)))))) (x_neq rfl rfl) ?_
    refine st_q (v := .bool (decide (((rkE ar c (tp L))) ≠ ((rkE ar c (tp L)))))) (x_pickF rfl rfl) ?_
    refine st_if (p := ((rkE ar c (tp L))) ≠ ((rkE ar c (tp L)))) (x_move rfl) (fun h92 => ?_) (fun h92 => ?_)
    ·
      exact absurd h92 (not_not_intro rfl)
    ·
      refine st_gq 10 44 rfl rfl (by decide) ?_
      refine st_q (v := .slice aA ((rkL ar c (tp L)).length) cA) (x_move rfl) ?_
      refine st_gq 10 44 rfl rfl (by decide) ?_
      refine st_q (v := .slice aW ((rkL ar c (tp L)).length) cW) (x_move rfl) ?_
      refine st_gq 10 44 rfl rfl (by decide) ?_
      refine st_c (t_call [.slice aA ((rkL ar c (tp L)).length) cA, .slice aW ((rkL ar c (tp L)).length) cW] T.cf21 rfl rfl) (same21 (rkL ar c (tp L)) (rkL ar c (tp L)) _ _ _ hF78.src hOW.src) ?_
      rintro _ w93 ⟨rfl, hx94⟩
      refine ⟨_, rfl, ?_⟩
      have hB95 := hB75.ext hx94
      have hB96 := hB76.ext hx94
      have hF97 := hx94.e hF77 (Nat.le_refl _)
      have hF98 := hF78.ext hx94
      have hF99 := hF79.ext hx94
      have hF100 := hOW.ext hx94
      have hE101 : Below w0.heap.size w0 w93 := hx94.e hE80 (Nat.le_refl _)
      have hz102 := hE101.le
      have hs103 := hx94.size
      refine st_gq 10 44 rfl rfl (by decide) ?_
      refine st_q (v := .bool (decide (¬ ((rkL ar c (tp L)) = (rkL ar c (tp L)))))) (x_notP rfl) ?_
      refine st_q (v := .bool (decide (¬ ((rkL ar c (tp L)) = (rkL ar c (tp L)))))) (x_pickF rfl rfl) ?_
      refine st_if (p := ¬ ((rkL ar c (tp L)) = (rkL ar c (tp L)))) (x_move rfl) (fun h104 => ?_) (fun h104 => ?_)
      ·
        exact absurd h104 (not_not_intro rfl)
      ·
        refine st_gq 16 50 rfl rfl (by decide) ?_
        refine st_q (v := .agg #[.string pr, .int .i64 ar, .slice am M.length cm]) (x_loadA [.string pr, .int .i64 ar, .slice am M.length cm] T.ag29 rfl (hB96.cells 0 [.string pr, .int .i64 ar, .slice am M.length cm] (cells_at rfl))) ?_
        refine st_gq 16 50 rfl rfl (by decide) ?_
        refine st_q (v := .agg #[.string pr, .int .i64 ar, .slice a L.length ca]) (x_loadA [.string pr, .int .i64 ar, .slice a L.length ca] T.ag29 rfl (hB95.cells 0 [.string pr, .int .i64 ar, .slice a L.length ca] (cells_at rfl))) ?_
        refine st_gq 16 50 rfl rfl (by decide) ?_
        refine st_c (t_call [.agg #[.string pr, .int .i64 ar, .slice am M.length cm], .agg #[.string pr, .int .i64 ar, .slice a L.length ca]] T.cf18 rfl rfl) (left18 pr ar L M _ am cm _ (ha.below hE101) (RowsP.below hL hE101) (hLt.ext hF97) hMP hn) ?_
        rintro _ w105 ⟨rfl, hx106⟩
        refine ⟨_, rfl, ?_⟩
        have hB107 := hB95.ext hx106
        have hB108 := hB96.ext hx106
        have hF109 := hx106.e hF97 (Nat.le_refl _)
        have hF110 := hF98.ext hx106
        have hF111 := hF99.ext hx106
        have hF112 := hF100.ext hx106
        have hE113 : Below w0.heap.size w0 w105 := hx106.e hE101 (Nat.le_refl _)
        have hz114 := hE113.le
        have hs115 := hx106.size
        refine st_gq 16 50 rfl rfl (by decide) ?_
        refine st_q (v := .bool false) (x_notB (b := true) rfl) ?_
        refine st_q (v := .bool false) (x_pickF rfl rfl) ?_
        refine st_nil ?_
        refine kn88 _ _ ?_
        refine cndF rfl ?_
        refine skip ?_
        refine kn84 _ _ ?_
        refine seqK fun Q116 kn117 kr118 ke119 => ?_
        refine seqK fun Q120 kn121 kr122 ke123 => ?_
        refine region ?_
        refine st_q (v := .int .i64 ((0 : Nat) : Int)) (x_assign rfl) ?_
        refine st_nil ?_
        refine kn121 _ _ ?_
        refine blockK fun Q124 kn125 kr126 kx127 kb128 => ?_
        have hEB := hE113
        have hzB := hEB.le
        have hTB := hT.below hEB
        have hKA := hF110
        have hKB := hF111
        have hKW := hF112
        have hzA1 : w45.heap.size ≤ w45.heap.size := by omega
        have hzA2 : w58.heap.size ≤ w105.heap.size := by omega
        have hM129 : Mod (fun z => w0.heap.size ≤ z ∧ z < w45.heap.size) w105 w105 := Mod.refl _ _
        have hz130 := hM129.le
        have habA : ∀ z, Value.ownBlock (.slice aA (rkL ar c (tp L)).length cA) = some z → z < w45.heap.size ∨ w105.heap.size ≤ z := fun z e => .inl (hblkA z e).2
        refine loopK (α := Nat × (List ByteArray)) (fun x => [(6, .slice aA ((rkL ar c (tp L)).length) cA), (8, .slice aB ((rkL ar c (tp L)).length) cB), (10, .slice aW ((rkL ar c (tp L)).length) cW), (12, .int .i64 ((x.1 : Nat) : Int))]) (fun x w131 => Mod (fun z => w0.heap.size ≤ z ∧ z < w45.heap.size) w105 w131 ∧ x.1 ≤ (rkL ar c (tp L)).length ∧ x.2.length = (rkL ar c (tp L)).length ∧ Own w131.heap w0.heap.size 9 1 (.slice aA (rkL ar c (tp L)).length cA) (rkL ar c (tp L)).length (flat enS x.2)) (fun x => (rkL ar c (tp L)).length - x.1) (0, (rkL ar c (tp L))) ⟨rfl, rfl, rfl, rfl, trivial⟩ ?_ ?_
        ·
          refine ⟨hM129, ?_⟩
          try dsimp only
          exact ⟨Nat.zero_le _, rfl, hKA⟩
        ·
          rintro τ132 ⟨i, F⟩ w133 ⟨hx134, ⟨hi, hFl, hOa⟩⟩
          try dsimp only at hi hFl hOa
          have hz135 := hx134.le
          intro Q136 kn137 kr138 ke139
          refine seqK fun Q140 kn141 kr142 ke143 => ?_
          refine seqK fun Q144 kn145 kr146 ke147 => ?_
          refine region ?_
          refine st_q (v := .int .i64 ((i : Nat) : Int)) (x_move rfl) ?_
          refine st_q (v := .slice aA ((rkL ar c (tp L)).length) cA) (x_move rfl) ?_
          refine st_q (v := .int .i64 (((rkL ar c (tp L)).length : Nat) : Int)) (x_lenSl rfl Tryd.underlying42 rfl) ?_
          refine st_q (v := .bool (decide (i < ((rkL ar c (tp L)).length)))) (x_lssN rfl rfl) ?_
          refine st_nil ?_
          refine kn145 _ _ ?_
          refine cnd (p := i < ((rkL ar c (tp L)).length)) rfl (fun h148 => ?_) (fun h148 => ?_)
          ·
            refine skip ?_
            refine kn141 _ _ ?_
            refine seqK fun Q149 kn150 kr151 ke152 => ?_
            refine blockK fun Q153 kn154 kr155 kx156 kb157 => ?_
            refine region ?_
            obtain ⟨bN, cN1, eN, hcN1, hOB⟩ := hOa.ob (fun e => by injection e with _ e2 _; omega)
            injection eN with eN1 eN2 eN3
            have hab := habA
            have hl158 := hOB.lo
            have hl159 := hOB.lt
            refine st_q (v := .slice aA ((rkL ar c (tp L)).length) cA) (x_move rfl) ?_
            refine st_q (v := .int .i64 ((i : Nat) : Int)) (x_move rfl) ?_
            refine st_q (v := .pointer (some ⟨bN, 0 + i * 1, none⟩)) (x_index' T.sl42 rfl eN1 rfl (by omega)) ?_
            refine st_s (e_stO (v := .string ((ByteArray.mk #[120]))) (u := (ByteArray.mk #[120])) enS_len T.sz9 rfl rfl rfl hOB (by first | omega | (rw [List.length_set]; omega)) (by rfl) ?_)
            intro w160 _ hP161 hB162
            have hs163 := hP161.size
            have hE164 : Mod (fun z => w0.heap.size ≤ z ∧ z < w45.heap.size) w105 w160 := hx134.pt hP161 ((hab bN (by rw [eN1]; rfl)).elim (fun h => .inl ⟨hOB.lo, h⟩) .inr)
            have hz165 := hE164.le
            refine st_nil ?_
            refine kn154 _ _ ?_
            refine kn150 _ _ ?_
            refine region ?_
            refine st_q (v := .int .i64 ((i : Nat) : Int)) (x_move rfl) ?_
            refine st_q (v := .int .i64 (((i + 1) : Nat) : Int)) (x_addN rfl rfl (by omega)) ?_
            refine st_q (v := .int .i64 (((i + 1) : Nat) : Int)) (x_assign rfl) ?_
            refine st_nil ?_
            refine kn137 _ ((i + 1), (F.set i ((ByteArray.mk #[120])))) _ ⟨rfl, rfl, rfl, rfl, trivial⟩ ⟨hE164, ?_⟩ ?_
            ·
              try dsimp only
              exact ⟨by omega, by rw [List.length_set]; exact hFl, by rw [eN1, eN3]; exact hB162.own (by omega) (by rw [flat_length enS_len]; simp only [List.length_set]; omega)⟩
            ·
              (try dsimp only); omega
          ·
            refine exit ?_
            refine ke143 _ _ _ ?_
            refine ke139 _ _ _ ?_
            refine kb128 _ _ ?_
            refine kn117 _ _ ?_
            refine seqK fun Q166 kn167 kr168 ke169 => ?_
            refine seqK fun Q170 kn171 kr172 ke173 => ?_
            refine region ?_
            refine st_q (v := .int .i64 ((0 : Nat) : Int)) (x_assign rfl) ?_
            refine st_nil ?_
            refine kn171 _ _ ?_
            refine blockK fun Q174 kn175 kr176 kx177 kb178 => ?_
            refine loopK (α := Nat × Nat × (List ByteArray) × Value) (fun x => [(6, x.2.2.2), (8, .slice aB ((rkL ar c (tp L)).length) cB), (10, .slice aW ((rkL ar c (tp L)).length) cW), (13, .int .i64 ((x.1 : Nat) : Int))]) (fun x w179 => Mod (fun z => w0.heap.size ≤ z ∧ z < w45.heap.size) w105 w179 ∧ x.1 ≤ 20 ∧ x.2.1 = (rkL ar c (tp L)).length + x.1 ∧ (∀ z, Value.ownBlock x.2.2.2 = some z → z < w45.heap.size ∨ w105.heap.size ≤ z) ∧ Own w179.heap w0.heap.size 9 1 x.2.2.2 x.2.1 (flat enS x.2.2.1)) (fun x => 20 - x.1) (0, (rkL ar c (tp L)).length, F, (.slice aA (rkL ar c (tp L)).length cA)) ⟨rfl, rfl, rfl, rfl, trivial⟩ ?_ ?_
            ·
              refine ⟨hx134, ?_⟩
              try dsimp only
              exact ⟨by omega, by omega, habA, hOa⟩
            ·
              rintro τ180 ⟨j, n, G, vz⟩ w181 ⟨hx182, ⟨hj, hnj, hab, hOz⟩⟩
              try dsimp only at hj hnj hab hOz
              have hz183 := hx182.le
              intro Q184 kn185 kr186 ke187
              obtain ⟨aZ, cZ, rfl, hcZ, hcZ1⟩ := hOz.src.form
              refine seqK fun Q188 kn189 kr190 ke191 => ?_
              refine seqK fun Q192 kn193 kr194 ke195 => ?_
              refine region ?_
              refine st_q (v := .int .i64 ((j : Nat) : Int)) (x_move rfl) ?_
              refine st_q (v := .bool (decide (j < 20))) (x_lssN rfl rfl) ?_
              refine st_nil ?_
              refine kn193 _ _ ?_
              refine cnd (p := j < 20) rfl (fun h196 => ?_) (fun h196 => ?_)
              ·
                refine skip ?_
                refine kn189 _ _ ?_
                refine seqK fun Q197 kn198 kr199 ke200 => ?_
                refine blockK fun Q201 kn202 kr203 kx204 kb205 => ?_
                refine region ?_
                refine st_q (v := .slice aZ n cZ) (x_move rfl) ?_
                refine st_e (e_buildSlice (cs := [.string ((ByteArray.mk #[120]))]) (e := 9) (fun _ => by kernel_rfl) ?_)
                intro w206 hA207
                have hx208 := hA207.ext
                have hs209 := hA207.size
                have hB210 : Blk w206.heap w181.heap.size [.string ((ByteArray.mk #[120]))] 9 := hA207.new
                have hF211 := hOz.ext hx208
                have hE212 : Mod (fun z => w0.heap.size ≤ z ∧ z < w45.heap.size) w105 w206 := hx182.ext hx208
                have hz213 := hE212.le
                have hs214 := hx208.size
                refine st_e (e_appendX T.sl42 rfl rfl hF211 (hB210.src1 (k := 1) (m := 1) rfl (by omega)) (ones (by rfl)) (by omega) (by decide) (by omega) ?_)
                intro v215 w216 hO217 hG218 hN219 hW220
                have hE221 : Mod (fun z => w0.heap.size ≤ z ∧ z < w45.heap.size) w105 w216 := hE212.grown hG218 (fun b hb => (hab b hb).elim (fun h => .inl ⟨(hF211.lt hb).1, h⟩) .inr)
                have hz222 := hE221.le
                have hs223 := hG218.size
                have hO224 := Own.snoc (enc := enS) (u := (ByteArray.mk #[120])) hO217
                obtain ⟨a225, c226, rfl, hm227, hm228⟩ := hO224.src.form
                refine st_q (v := .slice a225 ((n + 1)) c226) (x_assign rfl) ?_
                refine st_nil ?_
                refine kn202 _ _ ?_
                refine kn198 _ _ ?_
                refine region ?_
                refine st_q (v := .int .i64 ((j : Nat) : Int)) (x_move rfl) ?_
                refine st_q (v := .int .i64 (((j + 1) : Nat) : Int)) (x_addN rfl rfl (by omega)) ?_
                refine st_q (v := .int .i64 (((j + 1) : Nat) : Int)) (x_assign rfl) ?_
                refine st_nil ?_
                refine kn185 _ ((j + 1), (n + 1), (G ++ [(ByteArray.mk #[120])]), .slice a225 ((n + 1)) c226) _ ⟨rfl, rfl, rfl, rfl, trivial⟩ ⟨hE221, ?_⟩ ?_
                ·
                  try dsimp only
                  exact ⟨by omega, by omega, fun z e => hW220.elim (fun h => hab z (h ▸ e)) (fun h => by have := h.2 z e; exact .inr (by omega)), hO224⟩
                ·
                  (try dsimp only); omega
              ·
                refine exit ?_
                refine ke191 _ _ _ ?_
                refine ke187 _ _ _ ?_
                refine kb178 _ _ ?_
                refine kn167 _ _ ?_
                refine seqK fun Q229 kn230 kr231 ke232 => ?_
                refine region ?_
                refine st_q (v := .slice aB ((rkL ar c (tp L)).length) cB) (x_move rfl) ?_
                refine st_q (v := .slice aW ((rkL ar c (tp L)).length) cW) (x_move rfl) ?_
                refine st_c (t_call [.slice aB ((rkL ar c (tp L)).length) cB, .slice aW ((rkL ar c (tp L)).length) cW] T.cf21 rfl rfl) (same21 (rkL ar c (tp L)) (rkL ar c (tp L)) _ _ _ (hKB.mod hx182 (fun z hz hS => by have h1 := hblkB z hz; omega)).src (hKW.mod hx182 (fun z hz hS => by have h1 := hblkW z hz; omega)).src) ?_
                rintro _ w233 ⟨rfl, hx234⟩
                refine ⟨_, rfl, ?_⟩
                have hF235 := hOz.ext hx234
                have hE236 : Mod (fun z => w0.heap.size ≤ z ∧ z < w45.heap.size) w105 w233 := hx182.ext hx234
                have hz237 := hE236.le
                have hs238 := hx234.size
                refine st_if (p := (rkL ar c (tp L)) = (rkL ar c (tp L))) (x_move rfl) (fun h239 => ?_) (fun h239 => ?_)
                ·
                  refine st_gq 3 75 rfl rfl (by decide) ?_
                  refine st_q (v := .slice aZ n cZ) (x_move rfl) ?_
                  refine st_gq 3 75 rfl rfl (by decide) ?_
                  refine st_q (v := .int .i64 ((n : Nat) : Int)) (x_lenSl rfl Tryd.underlying42 rfl) ?_
                  refine st_gq 3 75 rfl rfl (by decide) ?_
                  refine st_q (v := .bool (decide (20 ≤ n))) (x_geqN rfl rfl) ?_
                  refine st_q (v := .bool (decide (20 ≤ n))) (x_pickT rfl rfl) ?_
                  refine st_if (p := 20 ≤ n) (x_move rfl) (fun h240 => ?_) (fun h240 => ?_)
                  ·
                    refine st_gq 8 80 rfl rfl (by decide) ?_
                    refine st_c (t_call [] T.cf11 rfl rfl) (known11 _ ((hT.below (Below.mod' hEB hE236 (fun i hi => hi.1) (Nat.le_refl _))))) ?_
                    rintro _ w241 ⟨rfl, hx242⟩
                    refine ⟨_, rfl, ?_⟩
                    have hF243 := hF235.ext hx242
                    have hE244 : Mod (fun z => w0.heap.size ≤ z ∧ z < w45.heap.size) w105 w241 := hE236.ext hx242
                    have hz245 := hE244.le
                    have hs246 := hx242.size
                    refine st_q (v := .bool true) (x_pickT rfl rfl) ?_
                    refine st_q (v := .bool true) (x_assign rfl) ?_
                    refine st_nil ?_
                    refine kn230 _ _ ?_
                    refine ret ?_
                    refine leave1 (P := Tryd.prog) (fn := Tryd.f5) (t := 4) (v := .bool true) rfl rfl ?_
                    exact ⟨rfl, Below.mod' hEB hE244 (fun i hi => hi.1) (Nat.le_refl _)⟩
                  ·
                    exact absurd h240 (not_not_intro (by omega))
                ·
                  exact absurd h239 (not_not_intro rfl)

end Go.Proofs.YtegpcbckiehleaaDoor
