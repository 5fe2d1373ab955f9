import Derived.Test.YtegpcbckiehleaaDoorS9
namespace Go.Proofs.YtegpcbckiehleaaDoor
open Go.RowKit Go.Eng Go.OrdPure Go.Flt
theorem T.cf42 : CF Tryd.prog 42 := fun _ _ => by kernel_rfl

set_option maxHeartbeats 4000000 in
theorem sums15a (pr : ByteArray) (ar : Int) (L : List Row) (va : Value) (ls : List Int) (vb : Value) (c : Int) (w0 : World) (ha : Src w0.heap va L.length 1 (flat enR L)) (hL : RowsP w0.heap L) (hb : Src w0.heap vb ls.length 1 (flat enI ls)) (hls : ls.length ≤ 140737488355328) (hbad : ¬ (RightR ar (tp L) ∧ ColsOK ar ls)) : Calls Tryd.prog 15 #[.agg #[.string pr, .int .i64 ar, va], .int .i64 c, vb] w0 fun e w' => e = .returned (.tuple #[.slice none 0 0, .int .i64 2]) ∧ Ext w0 w' := by
  have hE0 : Below w0.heap.size w0 w0 := Below.refl _ _
  have hz0 := hE0.le
  obtain ⟨a, ca, rfl, hca, hca1⟩ := ha.form
  obtain ⟨b, cb, rfl, hcb, hcb1⟩ := hb.form
  refine enter Tryd.func15 rfl 105 Tryd.ntmps15 rfl ?_
  refine seqK fun Q1 kn2 kr3 ke4 => ?_
  refine region ?_
  refine st_e (e_box (v := .agg #[.string pr, .int .i64 ar, .slice a L.length ca]) rfl ?_)
  intro w5 hA6
  have hx7 := hA6.ext
  have hs8 := hA6.size
  have hB9 : Blk w5.heap w0.heap.size [.string pr, .int .i64 ar, .slice a L.length ca] 29 := hA6.new
  have hE10 : Below w0.heap.size w0 w5 := hx7.e hE0 (Nat.le_refl _)
  have hz11 := hE10.le
  have hs12 := hx7.size
  refine st_q (v := .slice none 0 0) (x_assign rfl) ?_
  refine st_q (v := .int .i64 ((0 : Nat) : Int)) (x_assign rfl) ?_
  refine st_nil ?_
  refine kn2 _ _ ?_
  refine seqK fun Q13 kn14 kr15 ke16 => ?_
  refine region ?_
  refine st_q (v := .agg #[.string pr, .int .i64 ar, .slice a L.length ca]) (x_loadA [.string pr, .int .i64 ar, .slice a L.length ca] T.ag29 rfl (hB9.cells 0 [.string pr, .int .i64 ar, .slice a L.length ca] (cells_at rfl))) ?_
  refine st_q (v := .slice b ls.length cb) (x_move rfl) ?_
  refine st_c (t_call [.agg #[.string pr, .int .i64 ar, .slice a L.length ca], .slice b ls.length cb] T.cf33 rfl rfl) (grouped33e pr ar L _ ls _ _ (ha.below hE10) (RowsP.below hL hE10) (hb.below hE10) hls hbad) ?_
  rintro _ w17 ⟨rfl, hx18⟩
  refine ⟨_, rfl, ?_⟩
  have hB19 := hB9.ext hx18
  have hE20 : Below w0.heap.size w0 w17 := hx18.e hE10 (Nat.le_refl _)
  have hz21 := hE20.le
  have hs22 := hx18.size
  refine st_q (v := .tuple #[.slice none 0 0, .slice none 0 0, .int .i64 ((2 : Nat) : Int)]) (x_move rfl) ?_
  refine st_q (v := .slice none 0 0) (x_extract rfl rfl) ?_
  refine st_q (v := .slice none 0 0) (x_extract rfl rfl) ?_
  refine st_q (v := .int .i64 ((2 : Nat) : Int)) (x_extract rfl rfl) ?_
  refine st_q (v := .slice none 0 0) (x_assign rfl) ?_
  refine st_q (v := .slice none 0 0) (x_assign rfl) ?_
  refine st_q (v := .int .i64 ((2 : Nat) : Int)) (x_assign rfl) ?_
  refine st_nil ?_
  refine kn14 _ _ ?_
  refine seqK fun Q23 kn24 kr25 ke26 => ?_
  refine seqK fun Q27 kn28 kr29 ke30 => ?_
  refine region ?_
  refine st_q (v := .int .i64 ((2 : Nat) : Int)) (x_move rfl) ?_
  refine st_q (v := .bool (decide (2 ≠ 0))) (x_neqN rfl rfl) ?_
  refine st_if (p := 2 ≠ 0) (x_move rfl) (fun h31 => ?_) (fun h31 => ?_)
  ·
   refine st_gn 2 30 rfl rfl (by decide) rfl ?_
   refine st_gn 2 30 rfl rfl (by decide) rfl ?_
   refine st_gn 2 30 rfl rfl (by decide) rfl ?_
   refine st_gn 2 30 rfl rfl (by decide) rfl ?_
   refine st_gn 2 30 rfl rfl (by decide) rfl ?_
   refine st_q (v := .bool true) (x_pickT rfl rfl) ?_
   refine st_nil ?_
   refine kn28 _ _ ?_
   refine cndT rfl ?_
   refine seqK fun Q32 kn33 kr34 ke35 => ?_
   refine region ?_
   refine st_q (v := .slice none 0 0) (x_assign rfl) ?_
   refine st_q (v := .int .i64 ((2 : Nat) : Int)) (x_assign rfl) ?_
   refine st_nil ?_
   refine kn33 _ _ ?_
   refine ret ?_
   refine kr25 _ _ ?_
   refine leave2 (P := Tryd.prog) (fn := Tryd.f15) (t := 6) (u := 7) (v := .slice none 0 0) (v' := .int .i64 ((2 : Nat) : Int)) rfl rfl rfl ?_
   exact ⟨rfl, hE20⟩
  ·
   exact absurd h31 (by omega)

set_option maxHeartbeats 4000000 in
theorem sums15b (pr : ByteArray) (ar : Int) (L : List Row) (va : Value) (ls : List Int) (vb : Value) (c : Int) (w0 : World) (ha : Src w0.heap va L.length 1 (flat enR L)) (hL : RowsP w0.heap L) (hb : Src w0.heap vb ls.length 1 (flat enI ls)) (hls : ls.length ≤ 140737488355328) (hG : RightR ar (tp L) ∧ ColsOK ar ls) (hn : L.length ≤ 1466015503701) (hcC : ¬ rightB ar (tp L) [c]) : Calls Tryd.prog 15 #[.agg #[.string pr, .int .i64 ar, va], .int .i64 c, vb] w0 fun e w' => e = .returned (.tuple #[.slice none 0 0, .int .i64 2]) ∧ Ext w0 w' := by
  have hE0 : Below w0.heap.size w0 w0 := Below.refl _ _
  have hz0 := hE0.le
  obtain ⟨a, ca, rfl, hca, hca1⟩ := ha.form
  obtain ⟨b, cb, rfl, hcb, hcb1⟩ := hb.form
  refine enter Tryd.func15 rfl 105 Tryd.ntmps15 rfl ?_
  refine seqK fun Q1 kn2 kr3 ke4 => ?_
  refine region ?_
  refine st_e (e_box (v := .agg #[.string pr, .int .i64 ar, .slice a L.length ca]) rfl ?_)
  intro w5 hA6
  have hx7 := hA6.ext
  have hs8 := hA6.size
  have hB9 : Blk w5.heap w0.heap.size [.string pr, .int .i64 ar, .slice a L.length ca] 29 := hA6.new
  have hE10 : Below w0.heap.size w0 w5 := hx7.e hE0 (Nat.le_refl _)
  have hz11 := hE10.le
  have hs12 := hx7.size
  refine st_q (v := .slice none 0 0) (x_assign rfl) ?_
  refine st_q (v := .int .i64 ((0 : Nat) : Int)) (x_assign rfl) ?_
  refine st_nil ?_
  refine kn2 _ _ ?_
  refine seqK fun Q13 kn14 kr15 ke16 => ?_
  refine region ?_
  refine st_q (v := .agg #[.string pr, .int .i64 ar, .slice a L.length ca]) (x_loadA [.string pr, .int .i64 ar, .slice a L.length ca] T.ag29 rfl (hB9.cells 0 [.string pr, .int .i64 ar, .slice a L.length ca] (cells_at rfl))) ?_
  refine st_q (v := .slice b ls.length cb) (x_move rfl) ?_
  refine st_c (t_call [.agg #[.string pr, .int .i64 ar, .slice a L.length ca], .slice b ls.length cb] T.cf33 rfl rfl) (grouped33 pr ar L _ ls _ _ (ha.below hE10) (RowsP.below hL hE10) (hb.below hE10) hls hG hn) ?_
  rintro _ w17 ⟨vg, vm, A, vs, rfl, hx18, hOg, hOm, hF, hK, hAg, hAL⟩
  refine ⟨_, rfl, ?_⟩
  have hB19 := hB9.ext hx18
  have hE20 : Below w0.heap.size w0 w17 := hx18.e hE10 (Nat.le_refl _)
  have hz21 := hE20.le
  have hs22 := hx18.size
  have hOg := hOg.weak (lo' := w0.heap.size) (by omega)
  have hOm := hOm.weak (lo' := w0.heap.size) (by omega)
  have hK := hK.weak (lo' := w0.heap.size) (by omega)
  have hF : Fam w17.heap w0.heap.size 42 enR vs (A.map (·.2)) := ⟨hF.len, fun i hi => (hF.own i hi).weak (by omega), hF.apart⟩
  have hFl := hF.len
  rw [List.length_map] at hFl
  have hAml : (A.map toG).length = A.length := List.length_map _
  have hArl : (A.map (·.2)).length = A.length := List.length_map _
  obtain ⟨aG, cG, rfl, hcG, hcG1⟩ := hOg.src.form
  obtain ⟨aM, cM, rfl, hcM, hcM1⟩ := hOm.src.form
  refine st_q (v := .tuple #[.slice aG A.length cG, .slice aM A.length cM, .int .i64 ((0 : Nat) : Int)]) (x_move rfl) ?_
  refine st_q (v := .slice aG A.length cG) (x_extract rfl rfl) ?_
  refine st_q (v := .slice aM A.length cM) (x_extract rfl rfl) ?_
  refine st_q (v := .int .i64 ((0 : Nat) : Int)) (x_extract rfl rfl) ?_
  refine st_q (v := .slice aG A.length cG) (x_assign rfl) ?_
  refine st_q (v := .slice aM A.length cM) (x_assign rfl) ?_
  refine st_q (v := .int .i64 ((0 : Nat) : Int)) (x_assign rfl) ?_
  refine st_nil ?_
  refine kn14 _ _ ?_
  refine seqK fun Q23 kn24 kr25 ke26 => ?_
  refine seqK fun Q27 kn28 kr29 ke30 => ?_
  refine region ?_
  refine st_q (v := .int .i64 ((0 : Nat) : Int)) (x_move rfl) ?_
  refine st_q (v := .bool (decide (0 ≠ 0))) (x_neqN rfl rfl) ?_
  refine st_if (p := 0 ≠ 0) (x_move rfl) (fun h31 => ?_) (fun h31 => ?_)
  ·
   exact absurd h31 (by omega)
  ·
   refine st_gq 2 30 rfl rfl (by decide) ?_
   refine st_q (v := .agg #[.string pr, .int .i64 ar, .slice a L.length ca]) (x_loadA [.string pr, .int .i64 ar, .slice a L.length ca] T.ag29 rfl (hB19.cells 0 [.string pr, .int .i64 ar, .slice a L.length ca] (cells_at rfl))) ?_
   refine st_gq 2 30 rfl rfl (by decide) ?_
   refine st_q (v := .int .i64 c) (x_move rfl) ?_
   refine st_gq 2 30 rfl rfl (by decide) ?_
   refine st_e (e_buildSlice (cs := [.int .i64 c]) (e := 3) (fun _ => by kernel_rfl) ?_)
   intro w32 hA33
   have hx34 := hA33.ext
   have hs35 := hA33.size
   have hB36 : Blk w32.heap w17.heap.size [.int .i64 c] 3 := hA33.new
   have hB37 := hB19.ext hx34
   have hF38 := hOg.ext hx34
   have hF39 := hOm.ext hx34
   have hF40 := hK.ext hx34
   have hF41 := Fam.ext hF hx34
   have hE42 : Below w0.heap.size w0 w32 := hx34.e hE20 (Nat.le_refl _)
   have hz43 := hE42.le
   have hs44 := hx34.size
   refine st_gq 2 30 rfl rfl (by decide) ?_
   refine st_c (t_call [.agg #[.string pr, .int .i64 ar, .slice a L.length ca], .slice ((some ⟨w17.heap.size, 0, none⟩)) 1 1] T.cf39 rfl rfl) (right39 pr ar L _ [c] _ _ (ha.below hE42) (RowsP.below hL hE42) (hB36.src1 (k := 1) (m := 1) rfl (by omega))) ?_
   rintro _ w45 ⟨rfl, hx46⟩
   refine ⟨_, rfl, ?_⟩
   have hB47 := hB37.ext hx46
   have hB48 := hB36.ext hx46
   have hF49 := hF38.ext hx46
   have hF50 := hF39.ext hx46
   have hF51 := hF40.ext hx46
   have hF52 := Fam.ext hF41 hx46
   have hE53 : Below w0.heap.size w0 w45 := hx46.e hE42 (Nat.le_refl _)
   have hz54 := hE53.le
   have hs55 := hx46.size
   refine st_gq 2 30 rfl rfl (by decide) ?_
   refine st_q (v := .bool (decide (¬ (rightB ar (tp L) [c])))) (x_notP rfl) ?_
   refine st_q (v := .bool (decide (¬ (rightB ar (tp L) [c])))) (x_pickF rfl rfl) ?_
   refine st_nil ?_
   refine kn28 _ _ ?_
   refine cnd (p := ¬ (rightB ar (tp L) [c])) rfl (fun h56 => ?_) (fun h56 => ?_)
   ·
    refine seqK fun Q57 kn58 kr59 ke60 => ?_
    refine region ?_
    refine st_q (v := .slice none 0 0) (x_assign rfl) ?_
    refine st_q (v := .int .i64 ((2 : Nat) : Int)) (x_assign rfl) ?_
    refine st_nil ?_
    refine kn58 _ _ ?_
    refine ret ?_
    refine kr25 _ _ ?_
    refine leave2 (P := Tryd.prog) (fn := Tryd.f15) (t := 6) (u := 7) (v := .slice none 0 0) (v' := .int .i64 ((2 : Nat) : Int)) rfl rfl rfl ?_
    exact ⟨rfl, hE53⟩
   ·
    exact absurd h56 (not_not_intro hcC)

set_option maxHeartbeats 4000000 in
theorem rank19e (pr : ByteArray) (ar : Int) (L : List Row) (va : Value) (c : Int) (w0 : World) (ha : Src w0.heap va L.length 1 (flat enR L)) (hL : RowsP w0.heap L) (hcC : ¬ rightB ar (tp L) [c]) : Calls Tryd.prog 19 #[.agg #[.string pr, .int .i64 ar, va], .int .i64 c] w0 fun e w' => e = .returned (.tuple #[.slice none 0 0, .int .i64 2]) ∧ Ext w0 w' := by
  have hE0 : Below w0.heap.size w0 w0 := Below.refl _ _
  have hz0 := hE0.le
  obtain ⟨a, ca, rfl, hca, hca1⟩ := ha.form
  refine enter Tryd.func19 rfl 36 Tryd.ntmps19 rfl ?_
  refine seqK fun Q1 kn2 kr3 ke4 => ?_
  refine region ?_
  refine st_e (e_box (v := .agg #[.string pr, .int .i64 ar, .slice a L.length ca]) rfl ?_)
  intro w5 hA6
  have hx7 := hA6.ext
  have hs8 := hA6.size
  have hB9 : Blk w5.heap w0.heap.size [.string pr, .int .i64 ar, .slice a L.length ca] 29 := hA6.new
  have hE10 : Below w0.heap.size w0 w5 := hx7.e hE0 (Nat.le_refl _)
  have hz11 := hE10.le
  have hs12 := hx7.size
  refine st_q (v := .slice none 0 0) (x_assign rfl) ?_
  refine st_q (v := .int .i64 ((0 : Nat) : Int)) (x_assign rfl) ?_
  refine st_nil ?_
  refine kn2 _ _ ?_
  refine seqK fun Q13 kn14 kr15 ke16 => ?_
  refine seqK fun Q17 kn18 kr19 ke20 => ?_
  refine region ?_
  refine st_q (v := .agg #[.string pr, .int .i64 ar, .slice a L.length ca]) (x_loadA [.string pr, .int .i64 ar, .slice a L.length ca] T.ag29 rfl (hB9.cells 0 [.string pr, .int .i64 ar, .slice a L.length ca] (cells_at rfl))) ?_
  refine st_q (v := .int .i64 c) (x_move rfl) ?_
  refine st_e (e_buildSlice (cs := [.int .i64 c]) (e := 3) (fun _ => by kernel_rfl) ?_)
  intro w21 hA22
  have hx23 := hA22.ext
  have hs24 := hA22.size
  have hB25 : Blk w21.heap w5.heap.size [.int .i64 c] 3 := hA22.new
  have hB26 := hB9.ext hx23
  have hE27 : Below w0.heap.size w0 w21 := hx23.e hE10 (Nat.le_refl _)
  have hz28 := hE27.le
  have hs29 := hx23.size
  refine st_c (t_call [.agg #[.string pr, .int .i64 ar, .slice a L.length ca], .slice ((some ⟨w5.heap.size, 0, none⟩)) 1 1] T.cf39 rfl rfl) (right39 pr ar L _ [c] _ _ (ha.below hE27) (RowsP.below hL hE27) (hB25.src1 (k := 1) (m := 1) rfl (by omega))) ?_
  rintro _ w30 ⟨rfl, hx31⟩
  refine ⟨_, rfl, ?_⟩
  have hB32 := hB26.ext hx31
  have hB33 := hB25.ext hx31
  have hE34 : Below w0.heap.size w0 w30 := hx31.e hE27 (Nat.le_refl _)
  have hz35 := hE34.le
  have hs36 := hx31.size
  refine st_q (v := .bool (decide (¬ (rightB ar (tp L) [c])))) (x_notP rfl) ?_
  refine st_nil ?_
  refine kn18 _ _ ?_
  refine cnd (p := ¬ (rightB ar (tp L) [c])) rfl (fun h37 => ?_) (fun h37 => ?_)
  ·
   refine seqK fun Q38 kn39 kr40 ke41 => ?_
   refine region ?_
   refine st_q (v := .slice none 0 0) (x_assign rfl) ?_
   refine st_q (v := .int .i64 ((2 : Nat) : Int)) (x_assign rfl) ?_
   refine st_nil ?_
   refine kn39 _ _ ?_
   refine ret ?_
   refine kr15 _ _ ?_
   refine leave2 (P := Tryd.prog) (fn := Tryd.f19) (t := 4) (u := 5) (v := .slice none 0 0) (v' := .int .i64 ((2 : Nat) : Int)) rfl rfl rfl ?_
   exact ⟨rfl, hE34⟩
  ·
   exact absurd h37 (not_not_intro hcC)

set_option maxHeartbeats 4000000 in
theorem rank19 (pr : ByteArray) (ar : Int) (L : List Row) (va : Value) (c : Nat) (w0 : World) (ha : Src w0.heap va L.length 1 (flat enR L)) (hL : RowsP w0.heap L) (hcC : rightB ar (tp L) [((c : Nat) : Int)]) (hn : L.length ≤ 1466015503701) (hsz : SizeL L) (hT : Laid w0) : Calls Tryd.prog 19 #[.agg #[.string pr, .int .i64 ar, va], .int .i64 ((c : Nat) : Int)] w0 fun e w' => ∃ v, e = .returned (.tuple #[v, .int .i64 0]) ∧ Ext w0 w' ∧ Own w'.heap w0.heap.size 9 1 v (rankL ((tp L).map (fun t => el t c))).length (flat enS (rankL ((tp L).map (fun t => el t c)))) := by
  have hE0 : Below w0.heap.size w0 w0 := Below.refl _ _
  have hz0 := hE0.le
  obtain ⟨a, ca, rfl, hca, hca1⟩ := ha.form
  have hC2 : c < 16 ∧ ((c : Nat) : Int) < ar := by
    have hC := hcC.2 0 (by simp)
    have h1 : el [((c : Nat) : Int)] 0 = ((c : Nat) : Int) := rfl
    rw [h1] at hC
    unfold badC at hC
    have h2 := of_decide_eq_false hC
    have := hcC.1.2.2
    omega
  refine enter Tryd.func19 rfl 36 Tryd.ntmps19 rfl ?_
  refine seqK fun Q1 kn2 kr3 ke4 => ?_
  refine region ?_
  refine st_e (e_box (v := .agg #[.string pr, .int .i64 ar, .slice a L.length ca]) rfl ?_)
  intro w5 hA6
  have hx7 := hA6.ext
  have hs8 := hA6.size
  have hB9 : Blk w5.heap w0.heap.size [.string pr, .int .i64 ar, .slice a L.length ca] 29 := hA6.new
  have hE10 : Below w0.heap.size w0 w5 := hx7.e hE0 (Nat.le_refl _)
  have hz11 := hE10.le
  have hs12 := hx7.size
  refine st_q (v := .slice none 0 0) (x_assign rfl) ?_
  refine st_q (v := .int .i64 ((0 : Nat) : Int)) (x_assign rfl) ?_
  refine st_nil ?_
  refine kn2 _ _ ?_
  refine seqK fun Q13 kn14 kr15 ke16 => ?_
  refine seqK fun Q17 kn18 kr19 ke20 => ?_
  refine region ?_
  refine st_q (v := .agg #[.string pr, .int .i64 ar, .slice a L.length ca]) (x_loadA [.string pr, .int .i64 ar, .slice a L.length ca] T.ag29 rfl (hB9.cells 0 [.string pr, .int .i64 ar, .slice a L.length ca] (cells_at rfl))) ?_
  refine st_q (v := .int .i64 ((c : Nat) : Int)) (x_move rfl) ?_
  refine st_e (e_buildSlice (cs := [.int .i64 ((c : Nat) : Int)]) (e := 3) (fun _ => by kernel_rfl) ?_)
  intro w21 hA22
  have hx23 := hA22.ext
  have hs24 := hA22.size
  have hB25 : Blk w21.heap w5.heap.size [.int .i64 ((c : Nat) : Int)] 3 := hA22.new
  have hB26 := hB9.ext hx23
  have hE27 : Below w0.heap.size w0 w21 := hx23.e hE10 (Nat.le_refl _)
  have hz28 := hE27.le
  have hs29 := hx23.size
  refine st_c (t_call [.agg #[.string pr, .int .i64 ar, .slice a L.length ca], .slice ((some ⟨w5.heap.size, 0, none⟩)) 1 1] T.cf39 rfl rfl) (right39 pr ar L _ [((c : Nat) : Int)] _ _ (ha.below hE27) (RowsP.below hL hE27) (hB25.src1 (k := 1) (m := 1) rfl (by omega))) ?_
  rintro _ w30 ⟨rfl, hx31⟩
  refine ⟨_, rfl, ?_⟩
  have hB32 := hB26.ext hx31
  have hB33 := hB25.ext hx31
  have hE34 : Below w0.heap.size w0 w30 := hx31.e hE27 (Nat.le_refl _)
  have hz35 := hE34.le
  have hs36 := hx31.size
  refine st_q (v := .bool (decide (¬ (rightB ar (tp L) [((c : Nat) : Int)])))) (x_notP rfl) ?_
  refine st_nil ?_
  refine kn18 _ _ ?_
  refine cnd (p := ¬ (rightB ar (tp L) [((c : Nat) : Int)])) rfl (fun h37 => ?_) (fun h37 => ?_)
  ·
   exact absurd h37 (not_not_intro hcC)
  ·
   refine skip ?_
   refine kn14 _ _ ?_
   refine seqK fun Q38 kn39 kr40 ke41 => ?_
   refine region ?_
   refine st_q (v := .pointer (some ⟨w0.heap.size, 2, none⟩)) (x_field (o := 0) T.fa29_2 rfl) ?_
   refine st_q (v := .slice a L.length ca) (x_load1 T.na27 rfl (hB32.one 2 rfl)) ?_
   refine st_q (v := .int .i64 ((L.length : Nat) : Int)) (x_lenSl rfl Tryd.underlying27 rfl) ?_
   refine st_e (e_makeSlice T.sl42 rfl rfl (by omega) (by omega) ?_)
   intro w42 hA43
   have hx44 := hA43.ext
   have hs46 := hA43.size
   have hA43x : Al w30 w42 (.cells (flat enS (List.replicate L.length ByteArray.empty)).toArray 9) := by rw [flat_repX]; exact hA43
   have hO45 := OB.new (lo := w0.heap.size) (k := 1) (c := L.length) hA43x (by omega) (by rw [flat_length enS_len]; simp) (by omega)
   obtain ⟨bq, hbq⟩ : ∃ bq, bq = w30.heap.size := ⟨_, rfl⟩
   rw [← hbq] at hO45
   rw [← hbq]
   have hB47 := hB32.ext hx44
   have hB48 := hB33.ext hx44
   have hE49 : Below w0.heap.size w0 w42 := hx44.e hE34 (Nat.le_refl _)
   have hz50 := hE49.le
   have hs51 := hx44.size
   have hl52 := hO45.lo
   have hl53 := hO45.lt
   refine st_q (v := .slice ((some ⟨bq, 0, none⟩)) L.length L.length) (x_assign rfl) ?_
   refine st_nil ?_
   refine kn39 _ _ ?_
   refine seqK fun Q54 kn55 kr56 ke57 => ?_
   refine seqK fun Q58 kn59 kr60 ke61 => ?_
   refine region ?_
   refine st_q (v := .pointer (some ⟨w0.heap.size, 2, none⟩)) (x_field (o := 0) T.fa29_2 rfl) ?_
   refine st_q (v := .slice a L.length ca) (x_load1 T.na27 rfl (hB47.one 2 rfl)) ?_
   refine st_q (v := .int .i64 ((L.length : Nat) : Int)) (x_lenSl rfl Tryd.underlying27 rfl) ?_
   refine st_q (v := .int .i64 ((0 : Nat) : Int)) (x_move rfl) ?_
   refine st_nil ?_
   refine kn59 _ _ ?_
   refine blockK fun Q62 kn63 kr64 kx65 kb66 => ?_
   refine loopK (α := Nat × (List ByteArray)) (fun x => [(1, .int .i64 ((c : Nat) : Int)), (6, .slice ((some ⟨bq, 0, none⟩)) L.length L.length), (19, .slice a L.length ca), (20, .int .i64 ((L.length : Nat) : Int)), (21, .int .i64 ((x.1 : Nat) : Int))]) (fun x w67 => Below w0.heap.size w0 w67 ∧ x.1 ≤ L.length ∧ OB w67.heap w0.heap.size 9 1 bq L.length (flat enS x.2) ∧ x.2.length = L.length ∧ ∀ j, j < x.1 → el x.2 j = el (el L j).2 c) (fun x => L.length - x.1) (0, (List.replicate L.length ByteArray.empty)) ⟨rfl, rfl, rfl, rfl, rfl, trivial⟩ ?_ ?_
   ·
    refine ⟨hE49, ?_⟩
    try dsimp only
    exact ⟨Nat.zero_le _, hO45, by simp, fun j h => by omega⟩
   ·
    rintro τ68 ⟨i, F⟩ w69 ⟨hx70, ⟨hi, hO, hFl, hI⟩⟩
    try dsimp only at hi hO hFl hI
    have hz71 := hx70.le
    intro Q72 kn73 kr74 ke75
    have hl76 := hO.lo
    have hl77 := hO.lt
    refine seqK fun Q78 kn79 kr80 ke81 => ?_
    refine region ?_
    refine st_q (v := .bool (decide (i < L.length))) (x_lssN rfl rfl) ?_
    refine st_nil ?_
    refine kn79 _ _ ?_
    refine seqK fun Q82 kn83 kr84 ke85 => ?_
    refine cnd (p := i < L.length) rfl (fun h86 => ?_) (fun h86 => ?_)
    ·
     refine skip ?_
     refine kn83 _ _ ?_
     refine seqK fun Q87 kn88 kr89 ke90 => ?_
     refine blockK fun Q91 kn92 kr93 kx94 kb95 => ?_
     refine seqK fun Q96 kn97 kr98 ke99 => ?_
     refine region ?_
     refine st_q (v := .int .i64 ((i : Nat) : Int)) (x_move rfl) ?_
     obtain ⟨b100, o101, ha102, hc103⟩ := ha.at (by omega)
     refine st_q (v := .pointer (some ⟨b100, o101 + i * 1, none⟩)) (x_index' T.sl27 rfl ha102 rfl (by omega)) ?_
     have hs104 := hL _ (el_mem' (i := i) (by omega))
     have htl : ((el L i).2.length : Int) = ar := hcC.1.1 _ (show (el L i).2 ∈ tp L from List.mem_map_of_mem (el_mem' (by omega)))
     refine st_q (v := .slice ((el L i).1.1) ((el L i).2.length) ((el L i).1.2)) (x_load1 T.na42 rfl ((hc103.below hx70).elem enR_len (i := i) (by omega))) ?_
     refine st_q (v := .int .i64 ((i : Nat) : Int)) (x_assign rfl) ?_
     refine st_q (v := .slice ((el L i).1.1) ((el L i).2.length) ((el L i).1.2)) (x_assign rfl) ?_
     refine st_nil ?_
     refine kn97 _ _ ?_
     refine region ?_
     refine st_q (v := .slice ((some ⟨bq, 0, none⟩)) L.length L.length) (x_move rfl) ?_
     refine st_q (v := .int .i64 ((i : Nat) : Int)) (x_move rfl) ?_
     refine st_q (v := .slice ((el L i).1.1) ((el L i).2.length) ((el L i).1.2)) (x_move rfl) ?_
     refine st_q (v := .int .i64 ((c : Nat) : Int)) (x_move rfl) ?_
     obtain ⟨b105, o106, ha107, hc108⟩ := hs104.at (by omega)
     refine st_q (v := .pointer (some ⟨b105, o106 + c * 1, none⟩)) (x_index' T.sl42 rfl ha107 rfl (by omega)) ?_
     refine st_q (v := .string (el (el L i).2 c)) (x_load1 T.na9 rfl ((hc108.below hx70).elem enS_len (i := c) (by omega))) ?_
     refine st_q (v := .pointer (some ⟨bq, 0 + i * 1, none⟩)) (x_index T.sl42 rfl rfl (by omega)) ?_
     refine st_s (e_stO (v := .string (el (el L i).2 c)) (u := el (el L i).2 c) enS_len T.sz9 rfl rfl rfl hO (by first | omega | (rw [List.length_set]; omega)) (by rfl) ?_)
     intro w109 _ hP110 hB111
     have hs112 := hP110.size
     have hE113 : Below w0.heap.size w0 w109 := hP110.below hx70 (by omega)
     have hz114 := hE113.le
     refine st_nil ?_
     refine kn92 _ _ ?_
     refine kn88 _ _ ?_
     refine region ?_
     refine st_q (v := .int .i64 (((i + 1) : Nat) : Int)) (x_addN rfl rfl (by omega)) ?_
     refine st_q (v := .int .i64 (((i + 1) : Nat) : Int)) (x_move rfl) ?_
     refine st_nil ?_
     refine kn73 _ ((i + 1), (F.set i (el (el L i).2 c))) _ ⟨rfl, rfl, rfl, rfl, rfl, trivial⟩ ⟨hE113, ?_⟩ ?_
     ·
      try dsimp only
      exact ⟨by omega, hB111, by rw [List.length_set]; exact hFl, fun j h => by
        by_cases he : j = i
        · subst he; rw [el_set_here (by omega)]
        · rw [el_set_off (fun e => he e.symm)]; exact hI j (by omega)⟩
     ·
      (try dsimp only); omega
    ·
     refine exit ?_
     refine ke85 _ _ _ ?_
     refine ke75 _ _ _ ?_
     refine kb66 _ _ ?_
     refine kn55 _ _ ?_
     refine seqK fun Q115 kn116 kr117 ke118 => ?_
     refine region ?_
     refine st_q (v := .slice ((some ⟨bq, 0, none⟩)) L.length L.length) (x_move rfl) ?_
     have hFe : F = (tp L).map (fun t => el t c) := list_ext_el (by rw [List.length_map, tp_len]; exact hFl) fun j hj => by rw [el_map (by rw [tp_len]; omega), tp_el (by omega)]; exact hI j (by omega)
     have hFz : ∀ x ∈ F, x.size ≤ maxLen := by rw [hFe]; intro x hx; obtain ⟨t, ht, rfl⟩ := List.mem_map.1 hx; obtain ⟨y, hy, rfl⟩ := List.mem_map.1 ht; exact hsz y hy _ (el_mem' (by have h : ((y.2.length : Nat) : Int) = ar := hcC.1.1 _ (show y.2 ∈ tp L from List.mem_map_of_mem hy); omega))
     have hFo := (hO.own (by omega) (by rw [flat_length enS_len, hFl]) : Own w69.heap w0.heap.size 9 1 (.slice (some ⟨bq, 0, none⟩) L.length L.length) L.length (flat enS F))
     have hFs : Src w69.heap (.slice (some ⟨bq, 0, none⟩) L.length L.length) F.length 1 (flat enS F) := by rw [hFl]; exact hFo.src
     have hTn := hT.below hx70
     refine st_c (t_call [.slice ((some ⟨bq, 0, none⟩)) L.length L.length, .func (.func 43) #[] #[]] T.cf42 rfl rfl) (set42 43 rc0 T.cf43 rc_law (.func (.func 43) #[] #[]) (toldF65 43) (fun x => x.size ≤ maxLen) F hFz _ _ (fun x y w hx hy hb => rank43 _ hTn x y w hx hy hb) hFs (by omega)) ?_
     rintro _ w119 ⟨vr, rfl, hx120, hO121⟩
     refine ⟨_, rfl, ?_⟩
     have hF122 := hO.ext hx120
     have hE123 : Below w0.heap.size w0 w119 := hx120.e hx70 (Nat.le_refl _)
     have hz124 := hE123.le
     have hs125 := hx120.size
     have hOr := hO121.weak (lo' := w0.heap.size) (by omega)
     rw [hFe] at hOr
     refine st_q (v := vr) (x_assign rfl) ?_
     refine st_q (v := .int .i64 ((0 : Nat) : Int)) (x_assign rfl) ?_
     refine st_nil ?_
     refine kn116 _ _ ?_
     refine ret ?_
     refine leave2 (P := Tryd.prog) (fn := Tryd.f19) (t := 4) (u := 5) (v := vr) (v' := .int .i64 ((0 : Nat) : Int)) rfl rfl rfl ?_
     exact ⟨_, rfl, hE123, hOr⟩

end Go.Proofs.YtegpcbckiehleaaDoor
