import Derived.Test.YtegpcbckiehleaaDoorS8
namespace Go.Proofs.YtegpcbckiehleaaDoor
open Go.RowKit Go.Eng Go.OrdPure Go.Flt
theorem T.cf33 : CF Tryd.prog 33 := fun _ _ => by kernel_rfl
theorem T.cf40 : CF Tryd.prog 40 := fun _ _ => by kernel_rfl
theorem T.sl81 : SL Tryd.prog 81 87 3 24 (.agg #[.nilFunc, .nilFunc, .nilFunc]) := sl_mk Tryd.underlying81 (by kernel_rfl) rfl (by decide)
theorem T.ag87 : AG Tryd.prog 87 3 := fun _ => ⟨by kernel_rfl, by kernel_rfl⟩
theorem T.zv87 : ZV Tryd.prog 87 (.agg #[.nilFunc, .nilFunc, .nilFunc]) := fun _ => by kernel_rfl
theorem T.sz87 : SZ Tryd.prog 87 3 := fun _ => by kernel_rfl
theorem T.fa87_0 : FA Tryd.prog 87 0 0 := fun _ _ => by kernel_rfl
theorem T.na83 : NA Tryd.prog 83 := fun _ => by kernel_rfl
theorem T.cf59 : CF Tryd.prog 59 := fun _ _ => by kernel_rfl
theorem T.fa87_1 : FA Tryd.prog 87 1 1 := fun _ _ => by kernel_rfl
theorem T.na84 : NA Tryd.prog 84 := fun _ => by kernel_rfl
theorem T.cf60 : CF Tryd.prog 60 := fun _ _ => by kernel_rfl
theorem T.fa87_2 : FA Tryd.prog 87 2 2 := fun _ _ => by kernel_rfl
theorem T.na85 : NA Tryd.prog 85 := fun _ => by kernel_rfl
theorem T.cf61 : CF Tryd.prog 61 := fun _ _ => by kernel_rfl
theorem T.cf62 : CF Tryd.prog 62 := fun _ _ => by kernel_rfl
theorem T.cf63 : CF Tryd.prog 63 := fun _ _ => by kernel_rfl
theorem T.cf64 : CF Tryd.prog 64 := fun _ _ => by kernel_rfl

set_option maxHeartbeats 4000000 in
theorem groups13e (pr : ByteArray) (ar : Int) (L : List Row) (va : Value) (ls : List Int) (vb : Value) (w0 : World) (ha : Src w0.heap va L.length 1 (flat enR L)) (hL : RowsP w0.heap L) (hb : Src w0.heap vb ls.length 1 (flat enI ls)) (hls : ls.length ≤ 140737488355328) (hbad : ¬ (RightR ar (tp L) ∧ ColsOK ar ls)) : Calls Tryd.prog 13 #[.agg #[.string pr, .int .i64 ar, va], vb] w0 fun e w' => e = .returned (.tuple #[.slice none 0 0, .int .i64 2]) ∧ Ext w0 w' := by
  have hE0 : Below w0.heap.size w0 w0 := Below.refl _ _
  have hz0 := hE0.le
  obtain ⟨a, ca, rfl, hca, hca1⟩ := ha.form
  obtain ⟨b, cb, rfl, hcb, hcb1⟩ := hb.form
  refine enter Tryd.func13 rfl 18 Tryd.ntmps13 rfl ?_
  refine seqK fun Q1 kn2 kr3 ke4 => ?_
  refine region ?_
  refine st_e (e_box (v := .agg #[.string pr, .int .i64 ar, .slice a L.length ca]) rfl ?_)
  intro w5 hA6
  have hx7 := hA6.ext
  have hs8 := hA6.size
  have hB9 : Blk w5.heap w0.heap.size [.string pr, .int .i64 ar, .slice a L.length ca] 29 := hA6.new
  have hE10 : Below w0.heap.size w0 w5 := hx7.e hE0 (Nat.le_refl _)
  have hz11 := hE10.le
  have hs12 := hx7.size
  refine st_q (v := .slice none 0 0) (x_assign rfl) ?_
  refine st_q (v := .int .i64 ((0 : Nat) : Int)) (x_assign rfl) ?_
  refine st_nil ?_
  refine kn2 _ _ ?_
  refine seqK fun Q13 kn14 kr15 ke16 => ?_
  refine region ?_
  refine st_q (v := .agg #[.string pr, .int .i64 ar, .slice a L.length ca]) (x_loadA [.string pr, .int .i64 ar, .slice a L.length ca] T.ag29 rfl (hB9.cells 0 [.string pr, .int .i64 ar, .slice a L.length ca] (cells_at rfl))) ?_
  refine st_q (v := .slice b ls.length cb) (x_move rfl) ?_
  refine st_c (t_call [.agg #[.string pr, .int .i64 ar, .slice a L.length ca], .slice b ls.length cb] T.cf33 rfl rfl) (grouped33e pr ar L _ ls _ _ (ha.below hE10) (RowsP.below hL hE10) (hb.below hE10) hls hbad) ?_
  rintro _ w17 ⟨rfl, hx18⟩
  refine ⟨_, rfl, ?_⟩
  have hB19 := hB9.ext hx18
  have hE20 : Below w0.heap.size w0 w17 := hx18.e hE10 (Nat.le_refl _)
  have hz21 := hE20.le
  have hs22 := hx18.size
  refine st_q (v := .tuple #[.slice none 0 0, .slice none 0 0, .int .i64 ((2 : Nat) : Int)]) (x_move rfl) ?_
  refine st_q (v := .slice none 0 0) (x_extract rfl rfl) ?_
  refine st_q (v := .slice none 0 0) (x_extract rfl rfl) ?_
  refine st_q (v := .int .i64 ((2 : Nat) : Int)) (x_extract rfl rfl) ?_
  refine st_q (v := .slice none 0 0) (x_assign rfl) ?_
  refine st_q (v := .slice none 0 0) (x_assign rfl) ?_
  refine st_q (v := .int .i64 ((2 : Nat) : Int)) (x_assign rfl) ?_
  refine st_nil ?_
  refine kn14 _ _ ?_
  refine seqK fun Q23 kn24 kr25 ke26 => ?_
  refine region ?_
  refine st_q (v := .slice none 0 0) (x_move rfl) ?_
  refine st_q (v := .int .i64 ((2 : Nat) : Int)) (x_move rfl) ?_
  refine st_q (v := .slice none 0 0) (x_assign rfl) ?_
  refine st_q (v := .int .i64 ((2 : Nat) : Int)) (x_assign rfl) ?_
  refine st_nil ?_
  refine kn24 _ _ ?_
  refine ret ?_
  refine leave2 (P := Tryd.prog) (fn := Tryd.f13) (t := 4) (u := 5) (v := .slice none 0 0) (v' := .int .i64 ((2 : Nat) : Int)) rfl rfl rfl ?_
  exact ⟨rfl, hE20⟩

set_option maxHeartbeats 4000000 in
theorem groups13 (pr : ByteArray) (ar : Int) (L : List Row) (va : Value) (ls : List Int) (vb : Value) (w0 : World) (ha : Src w0.heap va L.length 1 (flat enR L)) (hL : RowsP w0.heap L) (hb : Src w0.heap vb ls.length 1 (flat enI ls)) (hls : ls.length ≤ 140737488355328) (hG : RightR ar (tp L) ∧ ColsOK ar ls) (hn : L.length ≤ 1466015503701) : Calls Tryd.prog 13 #[.agg #[.string pr, .int .i64 ar, va], vb] w0 fun e w' => ∃ (vg : Value) (A : Acc), e = .returned (.tuple #[vg, .int .i64 0]) ∧ Ext w0 w' ∧ Own w'.heap w0.heap.size 44 8 vg A.length (flat enG (A.map toG)) ∧ KOK w'.heap w0.heap.size (A.map (·.1)) ∧ A.map gT = grpL ls (tp L) := by
  have hE0 : Below w0.heap.size w0 w0 := Below.refl _ _
  have hz0 := hE0.le
  obtain ⟨a, ca, rfl, hca, hca1⟩ := ha.form
  obtain ⟨b, cb, rfl, hcb, hcb1⟩ := hb.form
  refine enter Tryd.func13 rfl 18 Tryd.ntmps13 rfl ?_
  refine seqK fun Q1 kn2 kr3 ke4 => ?_
  refine region ?_
  refine st_e (e_box (v := .agg #[.string pr, .int .i64 ar, .slice a L.length ca]) rfl ?_)
  intro w5 hA6
  have hx7 := hA6.ext
  have hs8 := hA6.size
  have hB9 : Blk w5.heap w0.heap.size [.string pr, .int .i64 ar, .slice a L.length ca] 29 := hA6.new
  have hE10 : Below w0.heap.size w0 w5 := hx7.e hE0 (Nat.le_refl _)
  have hz11 := hE10.le
  have hs12 := hx7.size
  refine st_q (v := .slice none 0 0) (x_assign rfl) ?_
  refine st_q (v := .int .i64 ((0 : Nat) : Int)) (x_assign rfl) ?_
  refine st_nil ?_
  refine kn2 _ _ ?_
  refine seqK fun Q13 kn14 kr15 ke16 => ?_
  refine region ?_
  refine st_q (v := .agg #[.string pr, .int .i64 ar, .slice a L.length ca]) (x_loadA [.string pr, .int .i64 ar, .slice a L.length ca] T.ag29 rfl (hB9.cells 0 [.string pr, .int .i64 ar, .slice a L.length ca] (cells_at rfl))) ?_
  refine st_q (v := .slice b ls.length cb) (x_move rfl) ?_
  refine st_c (t_call [.agg #[.string pr, .int .i64 ar, .slice a L.length ca], .slice b ls.length cb] T.cf33 rfl rfl) (grouped33 pr ar L _ ls _ _ (ha.below hE10) (RowsP.below hL hE10) (hb.below hE10) hls hG hn) ?_
  rintro _ w17 ⟨vg, vm, A, vs, rfl, hx18, hOg, hOm, hF, hK, hAg, hAL⟩
  refine ⟨_, rfl, ?_⟩
  have hB19 := hB9.ext hx18
  have hE20 : Below w0.heap.size w0 w17 := hx18.e hE10 (Nat.le_refl _)
  have hz21 := hE20.le
  have hs22 := hx18.size
  have hOg := hOg.weak (lo' := w0.heap.size) (by omega)
  have hOm := hOm.weak (lo' := w0.heap.size) (by omega)
  have hK := hK.weak (lo' := w0.heap.size) (by omega)
  have hF : Fam w17.heap w0.heap.size 42 enR vs (A.map (·.2)) := ⟨hF.len, fun i hi => (hF.own i hi).weak (by omega), hF.apart⟩
  refine st_q (v := .tuple #[vg, vm, .int .i64 ((0 : Nat) : Int)]) (x_move rfl) ?_
  refine st_q (v := vg) (x_extract rfl rfl) ?_
  refine st_q (v := vm) (x_extract rfl rfl) ?_
  refine st_q (v := .int .i64 ((0 : Nat) : Int)) (x_extract rfl rfl) ?_
  refine st_q (v := vg) (x_assign rfl) ?_
  refine st_q (v := vm) (x_assign rfl) ?_
  refine st_q (v := .int .i64 ((0 : Nat) : Int)) (x_assign rfl) ?_
  refine st_nil ?_
  refine kn14 _ _ ?_
  refine seqK fun Q23 kn24 kr25 ke26 => ?_
  refine region ?_
  refine st_q (v := vg) (x_move rfl) ?_
  refine st_q (v := .int .i64 ((0 : Nat) : Int)) (x_move rfl) ?_
  refine st_q (v := vg) (x_assign rfl) ?_
  refine st_q (v := .int .i64 ((0 : Nat) : Int)) (x_assign rfl) ?_
  refine st_nil ?_
  refine kn24 _ _ ?_
  refine ret ?_
  refine leave2 (P := Tryd.prog) (fn := Tryd.f13) (t := 4) (u := 5) (v := vg) (v' := .int .i64 ((0 : Nat) : Int)) rfl rfl rfl ?_
  exact ⟨_, A, rfl, hE20, hOg, hK, hAg⟩

set_option maxHeartbeats 4000000 in
theorem tallies40  (w0 : World) : Calls Tryd.prog 40 #[] w0 fun e w' => ∃ b, e = .returned (.slice (some ⟨b, 0, none⟩) 2 2) ∧ Ext w0 w' ∧ w0.heap.size ≤ b ∧ b < w'.heap.size ∧ Blk w'.heap b [.func (.func 59) #[] #[], .func (.func 60) #[] #[], .func (.func 61) #[] #[], .func (.func 62) #[] #[], .func (.func 63) #[] #[], .func (.func 64) #[] #[]] 87 := by
  have hE0 : Below w0.heap.size w0 w0 := Below.refl _ _
  have hz0 := hE0.le
  refine enter Tryd.func40 rfl 4 Tryd.ntmps40 rfl ?_
  refine seqK fun Q1 kn2 kr3 ke4 => ?_
  refine region ?_
  refine st_q (v := .slice none 0 0) (x_assign rfl) ?_
  refine st_nil ?_
  refine kn2 _ _ ?_
  refine seqK fun Q5 kn6 kr7 ke8 => ?_
  refine region ?_
  refine st_q (v := .agg #[.func (.func 59) #[] #[], .func (.func 60) #[] #[], .func (.func 61) #[] #[]]) (x_build (fun _ => by kernel_rfl)) ?_
  refine st_q (v := .agg #[.func (.func 62) #[] #[], .func (.func 63) #[] #[], .func (.func 64) #[] #[]]) (x_build (fun _ => by kernel_rfl)) ?_
  refine st_e (e_buildSlice (cs := [.func (.func 59) #[] #[], .func (.func 60) #[] #[], .func (.func 61) #[] #[], .func (.func 62) #[] #[], .func (.func 63) #[] #[], .func (.func 64) #[] #[]]) (e := 87) (fun _ => by kernel_rfl) ?_)
  intro w9 hA10
  have hx11 := hA10.ext
  have hs12 := hA10.size
  have hB13 : Blk w9.heap w0.heap.size [.func (.func 59) #[] #[], .func (.func 60) #[] #[], .func (.func 61) #[] #[], .func (.func 62) #[] #[], .func (.func 63) #[] #[], .func (.func 64) #[] #[]] 87 := hA10.new
  have hE14 : Below w0.heap.size w0 w9 := hx11.e hE0 (Nat.le_refl _)
  have hz15 := hE14.le
  have hs16 := hx11.size
  refine st_q (v := .slice ((some ⟨w0.heap.size, 0, none⟩)) 2 2) (x_assign rfl) ?_
  refine st_nil ?_
  refine kn6 _ _ ?_
  refine ret ?_
  refine leave1 (P := Tryd.prog) (fn := Tryd.f40) (t := 0) (v := .slice ((some ⟨w0.heap.size, 0, none⟩)) 2 2) rfl rfl ?_
  exact ⟨_, rfl, hE14, by omega, by omega, hB13⟩

theorem number9g (s : ByteArray) (w0 : World) (hs : s.size ≤ maxLen) (hT : Laid w0) : Calls Tryd.prog 9 #[.string s] w0 fun e w' => e = .returned (.tuple #[.float .f64 ((num s).getD 0), .bool (num s).isSome]) ∧ Ext w0 w' := number9 s w0 hs hT
theorem number10g (s : ByteArray) (w0 : World) (hs : s.size ≤ maxLen) : Calls Tryd.prog 10 #[.string s] w0 fun e w' => e = .returned (.tuple #[.float .f64 ((num s).getD 0), .bool (num s).isSome]) ∧ Ext w0 w' := number10 s w0 hs
def SizeL (L : List Row) : Prop := ∀ x ∈ L, ∀ s ∈ x.2, s.size ≤ maxLen
set_option maxHeartbeats 4000000 in
theorem sums15 (pr : ByteArray) (ar : Int) (L : List Row) (va : Value) (ls : List Int) (vb : Value) (c : Nat) (w0 : World) (ha : Src w0.heap va L.length 1 (flat enR L)) (hL : RowsP w0.heap L) (hb : Src w0.heap vb ls.length 1 (flat enI ls)) (hls : ls.length ≤ 140737488355328) (hG : RightR ar (tp L) ∧ ColsOK ar ls) (hn : L.length ≤ 1466015503701) (hC : badC ar ((c : Nat) : Int) = false) (hsz : SizeL L) (hT : Laid w0) : Calls Tryd.prog 15 #[.agg #[.string pr, .int .i64 ar, va], .int .i64 ((c : Nat) : Int), vb] w0 fun e w' => ∃ (vg : Value) (A : Acc) (GL : List Grp), e = .returned (.tuple #[vg, .int .i64 0]) ∧ Ext w0 w' ∧ Own w'.heap w0.heap.size 44 8 vg A.length (flat enG GL) ∧ KOK w'.heap w0.heap.size (A.map (·.1)) ∧ A.map gT = grpL ls (tp L) ∧ GL.length = A.length ∧ (∀ j, j < A.length → IsFill (numsL c (tp (el A j).2)) (toG (el A j)) (el GL j)) ∧ ∀ g ∈ A, ∀ t ∈ g.2, t ∈ L := by
  have hE0 : Below w0.heap.size w0 w0 := Below.refl _ _
  have hz0 := hE0.le
  obtain ⟨a, ca, rfl, hca, hca1⟩ := ha.form
  obtain ⟨b, cb, rfl, hcb, hcb1⟩ := hb.form
  have hC2 : c < 16 ∧ ((c : Nat) : Int) < ar := by
    unfold badC at hC
    have h2 := of_decide_eq_false hC
    have := hG.1.2.2
    omega
  refine enter Tryd.func15 rfl 105 Tryd.ntmps15 rfl ?_
  refine seqK fun Q1 kn2 kr3 ke4 => ?_
  refine region ?_
  refine st_e (e_box (v := .agg #[.string pr, .int .i64 ar, .slice a L.length ca]) rfl ?_)
  intro w5 hA6
  have hx7 := hA6.ext
  have hs8 := hA6.size
  have hB9 : Blk w5.heap w0.heap.size [.string pr, .int .i64 ar, .slice a L.length ca] 29 := hA6.new
  have hE10 : Below w0.heap.size w0 w5 := hx7.e hE0 (Nat.le_refl _)
  have hz11 := hE10.le
  have hs12 := hx7.size
  refine st_q (v := .slice none 0 0) (x_assign rfl) ?_
  refine st_q (v := .int .i64 ((0 : Nat) : Int)) (x_assign rfl) ?_
  refine st_nil ?_
  refine kn2 _ _ ?_
  refine seqK fun Q13 kn14 kr15 ke16 => ?_
  refine region ?_
  refine st_q (v := .agg #[.string pr, .int .i64 ar, .slice a L.length ca]) (x_loadA [.string pr, .int .i64 ar, .slice a L.length ca] T.ag29 rfl (hB9.cells 0 [.string pr, .int .i64 ar, .slice a L.length ca] (cells_at rfl))) ?_
  refine st_q (v := .slice b ls.length cb) (x_move rfl) ?_
  refine st_c (t_call [.agg #[.string pr, .int .i64 ar, .slice a L.length ca], .slice b ls.length cb] T.cf33 rfl rfl) (grouped33 pr ar L _ ls _ _ (ha.below hE10) (RowsP.below hL hE10) (hb.below hE10) hls hG hn) ?_
  rintro _ w17 ⟨vg, vm, A, vs, rfl, hx18, hOg, hOm, hF, hK, hAg, hAL⟩
  refine ⟨_, rfl, ?_⟩
  have hB19 := hB9.ext hx18
  have hE20 : Below w0.heap.size w0 w17 := hx18.e hE10 (Nat.le_refl _)
  have hz21 := hE20.le
  have hs22 := hx18.size
  have hOg := hOg.weak (lo' := w0.heap.size) (by omega)
  have hOm := hOm.weak (lo' := w0.heap.size) (by omega)
  have hK := hK.weak (lo' := w0.heap.size) (by omega)
  have hF : Fam w17.heap w0.heap.size 42 enR vs (A.map (·.2)) := ⟨hF.len, fun i hi => (hF.own i hi).weak (by omega), hF.apart⟩
  have hFl := hF.len
  rw [List.length_map] at hFl
  have hAml : (A.map toG).length = A.length := List.length_map _
  have hArl : (A.map (·.2)).length = A.length := List.length_map _
  obtain ⟨aG, cG, rfl, hcG, hcG1⟩ := hOg.src.form
  obtain ⟨aM, cM, rfl, hcM, hcM1⟩ := hOm.src.form
  refine st_q (v := .tuple #[.slice aG A.length cG, .slice aM A.length cM, .int .i64 ((0 : Nat) : Int)]) (x_move rfl) ?_
  refine st_q (v := .slice aG A.length cG) (x_extract rfl rfl) ?_
  refine st_q (v := .slice aM A.length cM) (x_extract rfl rfl) ?_
  refine st_q (v := .int .i64 ((0 : Nat) : Int)) (x_extract rfl rfl) ?_
  refine st_q (v := .slice aG A.length cG) (x_assign rfl) ?_
  refine st_q (v := .slice aM A.length cM) (x_assign rfl) ?_
  refine st_q (v := .int .i64 ((0 : Nat) : Int)) (x_assign rfl) ?_
  refine st_nil ?_
  refine kn14 _ _ ?_
  refine seqK fun Q23 kn24 kr25 ke26 => ?_
  refine seqK fun Q27 kn28 kr29 ke30 => ?_
  refine region ?_
  refine st_q (v := .int .i64 ((0 : Nat) : Int)) (x_move rfl) ?_
  refine st_q (v := .bool (decide (0 ≠ 0))) (x_neqN rfl rfl) ?_
  refine st_if (p := 0 ≠ 0) (x_move rfl) (fun h31 => ?_) (fun h31 => ?_)
  ·
   exact absurd h31 (by omega)
  ·
   refine st_gq 2 30 rfl rfl (by decide) ?_
   refine st_q (v := .agg #[.string pr, .int .i64 ar, .slice a L.length ca]) (x_loadA [.string pr, .int .i64 ar, .slice a L.length ca] T.ag29 rfl (hB19.cells 0 [.string pr, .int .i64 ar, .slice a L.length ca] (cells_at rfl))) ?_
   refine st_gq 2 30 rfl rfl (by decide) ?_
   refine st_q (v := .int .i64 ((c : Nat) : Int)) (x_move rfl) ?_
   refine st_gq 2 30 rfl rfl (by decide) ?_
   refine st_e (e_buildSlice (cs := [.int .i64 ((c : Nat) : Int)]) (e := 3) (fun _ => by kernel_rfl) ?_)
   intro w32 hA33
   have hx34 := hA33.ext
   have hs35 := hA33.size
   have hB36 : Blk w32.heap w17.heap.size [.int .i64 ((c : Nat) : Int)] 3 := hA33.new
   have hB37 := hB19.ext hx34
   have hF38 := hOg.ext hx34
   have hF39 := hOm.ext hx34
   have hF40 := hK.ext hx34
   have hF41 := Fam.ext hF hx34
   have hE42 : Below w0.heap.size w0 w32 := hx34.e hE20 (Nat.le_refl _)
   have hz43 := hE42.le
   have hs44 := hx34.size
   refine st_gq 2 30 rfl rfl (by decide) ?_
   refine st_c (t_call [.agg #[.string pr, .int .i64 ar, .slice a L.length ca], .slice ((some ⟨w17.heap.size, 0, none⟩)) 1 1] T.cf39 rfl rfl) (right39 pr ar L _ [((c : Nat) : Int)] _ _ (ha.below hE42) (RowsP.below hL hE42) (hB36.src1 (k := 1) (m := 1) rfl (by omega))) ?_
   rintro _ w45 ⟨rfl, hx46⟩
   refine ⟨_, rfl, ?_⟩
   have hB47 := hB37.ext hx46
   have hB48 := hB36.ext hx46
   have hF49 := hF38.ext hx46
   have hF50 := hF39.ext hx46
   have hF51 := hF40.ext hx46
   have hF52 := Fam.ext hF41 hx46
   have hE53 : Below w0.heap.size w0 w45 := hx46.e hE42 (Nat.le_refl _)
   have hz54 := hE53.le
   have hs55 := hx46.size
   refine st_gq 2 30 rfl rfl (by decide) ?_
   refine st_q (v := .bool (decide (¬ (rightB ar (tp L) [((c : Nat) : Int)])))) (x_notP rfl) ?_
   refine st_q (v := .bool (decide (¬ (rightB ar (tp L) [((c : Nat) : Int)])))) (x_pickF rfl rfl) ?_
   refine st_nil ?_
   refine kn28 _ _ ?_
   refine cnd (p := ¬ (rightB ar (tp L) [((c : Nat) : Int)])) rfl (fun h56 => ?_) (fun h56 => ?_)
   ·
    exact absurd h56 (not_not_intro (show rightB ar (tp L) [((c : Nat) : Int)] from ⟨hG.1, fun i hi => by have : i = 0 := (by have h : i < 1 := hi; omega); subst this; exact hC⟩))
   ·
    refine skip ?_
    refine kn24 _ _ ?_
    refine seqK fun Q57 kn58 kr59 ke60 => ?_
    refine seqK fun Q61 kn62 kr63 ke64 => ?_
    refine region ?_
    refine st_q (v := .slice aG A.length cG) (x_move rfl) ?_
    refine st_q (v := .int .i64 ((A.length : Nat) : Int)) (x_lenSl rfl Tryd.underlying32 rfl) ?_
    refine st_q (v := .int .i64 ((0 : Nat) : Int)) (x_move rfl) ?_
    refine st_nil ?_
    refine kn62 _ _ ?_
    refine blockK fun Q65 kn66 kr67 kx68 kb69 => ?_
    refine loopK (α := Nat × (List Grp)) (fun x => [(1, .int .i64 ((c : Nat) : Int)), (8, .slice aG A.length cG), (9, .slice aM A.length cM), (38, .int .i64 ((A.length : Nat) : Int)), (39, .int .i64 ((x.1 : Nat) : Int))]) (fun x w70 => Below w0.heap.size w0 w70 ∧ (x.1 ≤ A.length ∧ Own w70.heap w0.heap.size 44 8 (.slice aG A.length cG) A.length (flat enG x.2) ∧ x.2.length = A.length ∧ (∀ j, j < x.1 → IsFill (numsL c (tp (el A j).2)) (toG (el A j)) (el x.2 j)) ∧ ∀ j, x.1 ≤ j → j < A.length → el x.2 j = toG (el A j)) ∧ Own w70.heap w0.heap.size 27 1 (.slice aM A.length cM) A.length (flat enV vs) ∧ KOK w70.heap w0.heap.size (A.map (·.1)) ∧ Fam w70.heap w0.heap.size 42 enR vs (A.map (·.2))) (fun x => A.length - x.1) (0, (A.map toG)) ⟨rfl, rfl, rfl, rfl, rfl, trivial⟩ ?_ ?_
    ·
     refine ⟨hE53, ?_⟩
     try dsimp only
     refine ⟨?_, hF50, hF51, hF52⟩
     exact ⟨Nat.zero_le _, hF49, by simp, fun j h => by omega, fun j _ h => el_map h⟩
    ·
     rintro τ71 ⟨i, GL⟩ w72 ⟨hx76, ⟨⟨hi, hOgi, hGl, hdone, hrest⟩, hC73, hC74, hC75⟩⟩
     try dsimp only at hi hOgi hGl hdone hrest hC73 hC74 hC75
     have hz77 := hx76.le
     intro Q78 kn79 kr80 ke81
     refine seqK fun Q82 kn83 kr84 ke85 => ?_
     refine region ?_
     refine st_q (v := .bool (decide (i < A.length))) (x_lssN rfl rfl) ?_
     refine st_nil ?_
     refine kn83 _ _ ?_
     refine seqK fun Q86 kn87 kr88 ke89 => ?_
     refine cnd (p := i < A.length) rfl (fun h90 => ?_) (fun h90 => ?_)
     ·
      refine skip ?_
      refine kn87 _ _ ?_
      refine seqK fun Q91 kn92 kr93 ke94 => ?_
      refine blockK fun Q95 kn96 kr97 kx98 kb99 => ?_
      refine seqK fun Q100 kn101 kr102 ke103 => ?_
      refine region ?_
      refine st_q (v := .int .i64 ((i : Nat) : Int)) (x_move rfl) ?_
      refine st_q (v := .int .i64 ((i : Nat) : Int)) (x_assign rfl) ?_
      refine st_nil ?_
      refine kn101 _ _ ?_
      refine seqK fun Q104 kn105 kr106 ke107 => ?_
      refine region ?_
      refine st_e (e_buildSlice (cs := []) (e := 22) (fun _ => by kernel_rfl) ?_)
      intro w108 hA109
      have hx110 := hA109.ext
      have hs111 := hA109.size
      have hB112 : Blk w108.heap w72.heap.size [] 22 := hA109.new
      have hF113 := hC73.ext hx110
      have hF114 := hC74.ext hx110
      have hF115 := Fam.ext hC75 hx110
      have hF116 := hOgi.ext hx110
      have hE117 : Below w0.heap.size w0 w108 := hx110.e hx76 (Nat.le_refl _)
      have hz118 := hE117.le
      have hs119 := hx110.size
      refine st_q (v := .slice ((some ⟨w72.heap.size, 0, none⟩)) 0 0) (x_assign rfl) ?_
      refine st_nil ?_
      refine kn105 _ _ ?_
      refine seqK fun Q120 kn121 kr122 ke123 => ?_
      refine seqK fun Q124 kn125 kr126 ke127 => ?_
      refine region ?_
      refine st_q (v := .slice aM A.length cM) (x_move rfl) ?_
      refine st_q (v := .int .i64 ((i : Nat) : Int)) (x_move rfl) ?_
      obtain ⟨b128, o129, ha130, hc131⟩ := hF113.src.at (by omega)
      refine st_q (v := .pointer (some ⟨b128, o129 + i * 1, none⟩)) (x_index' T.sl72 rfl ha130 rfl (by omega)) ?_
      obtain ⟨M, hM⟩ : ∃ M, M = (el A i).2 := ⟨_, rfl⟩
      have hMo := hF115.own i (by omega)
      rw [el_map (by omega), ← hM] at hMo
      obtain ⟨q132, c133, e134, hcMo, hcMo1⟩ := hMo.src.form
      rw [e134] at hMo
      have hMlen : M.length ≤ L.length := by have h := grp_len hAg _ (el_mem' (i := i) (by omega)); rw [tp_len] at h; rw [hM]; exact h
      have hML : ∀ t ∈ M, t ∈ L := fun t ht => hAL _ (el_mem' (i := i) (by omega)) t (hM ▸ ht)
      have hg0 : el GL i = toG (el A i) := hrest i (Nat.le_refl _) (by omega)
      refine st_q (v := .slice q132 M.length c133) (x_load1 T.na27 rfl (Cells.conv (hc131.elem enV_len (i := i) (by omega)) e134)) ?_
      refine st_q (v := .int .i64 ((M.length : Nat) : Int)) (x_lenSl rfl Tryd.underlying27 rfl) ?_
      refine st_q (v := .int .i64 ((0 : Nat) : Int)) (x_move rfl) ?_
      refine st_nil ?_
      refine kn125 _ _ ?_
      refine blockK fun Q135 kn136 kr137 kx138 kb139 => ?_
      refine loopK (α := Nat × Value) (fun x => [(1, .int .i64 ((c : Nat) : Int)), (8, .slice aG A.length cG), (9, .slice aM A.length cM), (11, .int .i64 ((i : Nat) : Int)), (12, x.2), (38, .int .i64 ((A.length : Nat) : Int)), (39, .int .i64 ((i : Nat) : Int)), (46, .slice q132 M.length c133), (47, .int .i64 ((M.length : Nat) : Int)), (48, .int .i64 ((x.1 : Nat) : Int))]) (fun x w140 => Below w0.heap.size w0 w140 ∧ (x.1 ≤ M.length ∧ Own w140.heap w0.heap.size 22 1 x.2 (numsL c (tp (M.take x.1))).length (flat enF (numsL c (tp (M.take x.1))))) ∧ Own w140.heap w0.heap.size 27 1 (.slice aM A.length cM) A.length (flat enV vs) ∧ KOK w140.heap w0.heap.size (A.map (·.1)) ∧ Fam w140.heap w0.heap.size 42 enR vs (A.map (·.2)) ∧ Own w140.heap w0.heap.size 44 8 (.slice aG A.length cG) A.length (flat enG GL) ∧ Own w140.heap w0.heap.size 42 1 (.slice q132 M.length c133) M.length (flat enR M)) (fun x => M.length - x.1) (0, .slice ((some ⟨w72.heap.size, 0, none⟩)) 0 0) ⟨rfl, rfl, rfl, rfl, rfl, rfl, rfl, rfl, rfl, rfl, trivial⟩ ?_ ?_
      ·
       refine ⟨hE117, ?_⟩
       try dsimp only
       refine ⟨?_, hF113, hF114, hF115, hF116, hMo⟩
       exact ⟨Nat.zero_le _, hB112.own0 (by omega)⟩
      ·
       rintro τ141 ⟨j, vl⟩ w142 ⟨hx148, ⟨⟨hj, hOl⟩, hC143, hC144, hC145, hC146, hC147⟩⟩
       try dsimp only at hj hOl hC143 hC144 hC145 hC146 hC147
       have hz149 := hx148.le
       intro Q150 kn151 kr152 ke153
       have hNl : (numsL c (tp (M.take j))).length ≤ j := Nat.le_trans (numsL_len _ _) (by rw [tp_len, List.length_take]; omega)
       obtain ⟨N, hN⟩ : ∃ N, N = (numsL c (tp (M.take j))) := ⟨_, rfl⟩
       rw [← hN] at hOl hNl
       obtain ⟨aN, cN, rfl, hcN, hcN1⟩ := hOl.src.form
       refine seqK fun Q154 kn155 kr156 ke157 => ?_
       refine region ?_
       refine st_q (v := .bool (decide (j < M.length))) (x_lssN rfl rfl) ?_
       refine st_nil ?_
       refine kn155 _ _ ?_
       refine seqK fun Q158 kn159 kr160 ke161 => ?_
       refine cnd (p := j < M.length) rfl (fun h162 => ?_) (fun h162 => ?_)
       ·
        refine skip ?_
        refine kn159 _ _ ?_
        refine seqK fun Q163 kn164 kr165 ke166 => ?_
        refine blockK fun Q167 kn168 kr169 kx170 kb171 => ?_
        refine seqK fun Q172 kn173 kr174 ke175 => ?_
        refine region ?_
        obtain ⟨b176, o177, ha178, hc179⟩ := hC147.src.at (by omega)
        refine st_q (v := .pointer (some ⟨b176, o177 + j * 1, none⟩)) (x_index' T.sl27 rfl ha178 rfl (by omega)) ?_
        have hs180 := hL _ (hML _ (el_mem' (i := j) (by omega)))
        have htl : ((el M j).2.length : Int) = ar := hG.1.1 _ (show (el M j).2 ∈ tp L from List.mem_map_of_mem (hML _ (el_mem' (by omega))))
        refine st_q (v := .slice ((el M j).1.1) ((el M j).2.length) ((el M j).1.2)) (x_load1 T.na42 rfl (hc179.elem enR_len (i := j) (by omega))) ?_
        refine st_q (v := .slice ((el M j).1.1) ((el M j).2.length) ((el M j).1.2)) (x_assign rfl) ?_
        refine st_nil ?_
        refine kn173 _ _ ?_
        refine seqK fun Q181 kn182 kr183 ke184 => ?_
        refine region ?_
        refine st_q (v := .slice ((el M j).1.1) ((el M j).2.length) ((el M j).1.2)) (x_move rfl) ?_
        refine st_q (v := .int .i64 ((c : Nat) : Int)) (x_move rfl) ?_
        obtain ⟨b185, o186, ha187, hc188⟩ := hs180.at (by omega)
        refine st_q (v := .pointer (some ⟨b185, o186 + c * 1, none⟩)) (x_index' T.sl42 rfl ha187 rfl (by omega)) ?_
        refine st_q (v := .string (el (el M j).2 c)) (x_load1 T.na9 rfl ((hc188.below hx148).elem enS_len (i := c) (by omega))) ?_
        have hsz1 : (el (el M j).2 c).size ≤ maxLen := hsz _ (hML _ (el_mem' (i := j) (by omega))) _ (el_mem' (by omega))
        refine st_c (t_call [.string (el (el M j).2 c)] T.cf9 rfl rfl) (number9g (el (el M j).2 c) _ hsz1 (hT.below hx148)) ?_
        rintro _ w189 ⟨rfl, hx190⟩
        refine ⟨_, rfl, ?_⟩
        have hF191 := hC143.ext hx190
        have hF192 := hC144.ext hx190
        have hF193 := Fam.ext hC145 hx190
        have hF194 := hC146.ext hx190
        have hF195 := hC147.ext hx190
        have hF196 := hOl.ext hx190
        have hF197 := hc179.ext hx190
        have hE198 : Below w0.heap.size w0 w189 := hx190.e hx148 (Nat.le_refl _)
        have hz199 := hE198.le
        have hs200 := hx190.size
        refine st_q (v := .tuple #[.float .f64 (((num (el (el M j).2 c)).getD 0)), .bool ((num (el (el M j).2 c)).isSome)]) (x_move rfl) ?_
        refine st_q (v := .float .f64 (((num (el (el M j).2 c)).getD 0))) (x_extract rfl rfl) ?_
        refine st_q (v := .bool ((num (el (el M j).2 c)).isSome)) (x_extract rfl rfl) ?_
        refine st_q (v := .float .f64 (((num (el (el M j).2 c)).getD 0))) (x_assign rfl) ?_
        refine st_q (v := .bool ((num (el (el M j).2 c)).isSome)) (x_assign rfl) ?_
        refine st_nil ?_
        refine kn182 _ _ ?_
        refine seqK fun Q201 kn202 kr203 ke204 => ?_
        refine region ?_
        refine st_q (v := .bool ((num (el (el M j).2 c)).isSome)) (x_move rfl) ?_
        refine st_nil ?_
        refine kn202 _ _ ?_
        refine cndB (b := (num (el (el M j).2 c)).isSome) rfl (fun h205 => ?_) (fun h205 => ?_)
        ·
         refine region ?_
         refine st_q (v := .slice aN N.length cN) (x_move rfl) ?_
         refine st_q (v := .float .f64 (((num (el (el M j).2 c)).getD 0))) (x_move rfl) ?_
         refine st_e (e_buildSlice (cs := [.float .f64 (((num (el (el M j).2 c)).getD 0))]) (e := 22) (fun _ => by kernel_rfl) ?_)
         intro w206 hA207
         have hx208 := hA207.ext
         have hs209 := hA207.size
         have hB210 : Blk w206.heap w189.heap.size [.float .f64 (((num (el (el M j).2 c)).getD 0))] 22 := hA207.new
         have hF211 := hF191.ext hx208
         have hF212 := hF192.ext hx208
         have hF213 := Fam.ext hF193 hx208
         have hF214 := hF194.ext hx208
         have hF215 := hF195.ext hx208
         have hF216 := hF196.ext hx208
         have hF217 := hF197.ext hx208
         have hE218 : Below w0.heap.size w0 w206 := hx208.e hE198 (Nat.le_refl _)
         have hz219 := hE218.le
         have hs220 := hx208.size
         refine st_e (e_appendX T.sl78 rfl rfl hF216 (hB210.src1 (k := 1) (m := 1) rfl (by omega)) (ones (by rfl)) (by omega) (by decide) (by omega) ?_)
         intro v221 w222 hO223 hG224 hN225 hW226
         have hF227 := hF211.gk (hG224) (hF216.rowk) (by decide)
         have hF228 := hF212.gk (hG224) (hF216.rowk) (by decide)
         have hF229 := Fam.gk hF213 (hG224) (hF216.rowk) (by decide)
         have hF230 := hF214.gk (hG224) (hF216.rowk) (by decide)
         have hF231 := hF215.gk (hG224) (hF216.rowk) (by decide)
         have hE233 : Below w0.heap.size w0 w222 := grown_below hG224 hE218 (Nat.le_refl _) (fun b hb => (by have := (hF216.lt hb).1; clear hb; omega))
         have hz234 := hE233.le
         have hs235 := hG224.size
         have hO236 := Own.snoc (enc := enF) (u := ((num (el (el M j).2 c)).getD 0)) hO223
         obtain ⟨a237, c238, rfl, hm239, hm240⟩ := hO236.src.form
         refine st_q (v := .slice a237 ((N.length + 1)) c238) (x_assign rfl) ?_
         refine st_nil ?_
         refine kn168 _ _ ?_
         refine kn164 _ _ ?_
         refine region ?_
         refine st_q (v := .int .i64 (((j + 1) : Nat) : Int)) (x_addN rfl rfl (by omega)) ?_
         refine st_q (v := .int .i64 (((j + 1) : Nat) : Int)) (x_move rfl) ?_
         refine st_nil ?_
         refine kn151 _ ((j + 1), .slice a237 ((N.length + 1)) c238) _ ⟨rfl, rfl, rfl, rfl, rfl, rfl, rfl, rfl, rfl, rfl, trivial⟩ ⟨hE233, ?_⟩ ?_
         ·
          try dsimp only
          refine ⟨?_, hF227, hF228, hF229, hF230, hF231⟩
          refine ⟨by omega, ?_⟩
          rw [tp_take_succ (by omega), numsL_some (by assumption), ← hN]
          simpa using hO236
         ·
          (try dsimp only); omega
        ·
         refine skip ?_
         refine kn168 _ _ ?_
         refine kn164 _ _ ?_
         refine region ?_
         refine st_q (v := .int .i64 (((j + 1) : Nat) : Int)) (x_addN rfl rfl (by omega)) ?_
         refine st_q (v := .int .i64 (((j + 1) : Nat) : Int)) (x_move rfl) ?_
         refine st_nil ?_
         refine kn151 _ ((j + 1), .slice aN N.length cN) _ ⟨rfl, rfl, rfl, rfl, rfl, rfl, rfl, rfl, rfl, rfl, trivial⟩ ⟨hE198, ?_⟩ ?_
         ·
          try dsimp only
          refine ⟨?_, hF191, hF192, hF193, hF194, hF195⟩
          refine ⟨by omega, ?_⟩
          rw [tp_take_succ (by omega), numsL_none (by assumption), ← hN]
          exact hF196
         ·
          (try dsimp only); omega
       ·
        refine exit ?_
        refine ke161 _ _ _ ?_
        refine ke153 _ _ _ ?_
        refine kb139 _ _ ?_
        refine kn121 _ _ ?_
        refine seqK fun Q241 kn242 kr243 ke244 => ?_
        refine seqK fun Q245 kn246 kr247 ke248 => ?_
        refine region ?_
        have hN2 : N = numsL c (tp (el A i).2) := by rw [hN, ← hM, List.take_of_length_le (by omega)]
        refine st_q (v := .slice aN N.length cN) (x_move rfl) ?_
        refine st_q (v := .int .i64 ((N.length : Nat) : Int)) (x_lenSl rfl Tryd.underlying78 rfl) ?_
        refine st_q (v := .bool (decide (N.length = 0))) (x_eqlN rfl rfl) ?_
        refine st_nil ?_
        refine kn246 _ _ ?_
        refine cnd (p := N.length = 0) rfl (fun h249 => ?_) (fun h249 => ?_)
        ·
         refine exit ?_
         refine ke244 _ _ _ ?_
         refine kb99 _ _ ?_
         refine kn92 _ _ ?_
         refine region ?_
         refine st_q (v := .int .i64 (((i + 1) : Nat) : Int)) (x_addN rfl rfl (by omega)) ?_
         refine st_q (v := .int .i64 (((i + 1) : Nat) : Int)) (x_move rfl) ?_
         refine st_nil ?_
         refine kn79 _ ((i + 1), GL) _ ⟨rfl, rfl, rfl, rfl, rfl, trivial⟩ ⟨hx148, ?_⟩ ?_
         ·
          try dsimp only
          refine ⟨?_, hC143, hC144, hC145⟩
          refine ⟨by omega, hC146, hGl, fun j hj => ?_, fun j h1 h2 => hrest j (by omega) h2⟩
          by_cases he : j = i
          · subst he; exact IsFill.none (by rw [← hN2]; omega) (hrest j (Nat.le_refl _) (by omega))
          · exact hdone j (by omega)
         ·
          (try dsimp only); omega
        ·
         refine skip ?_
         refine kn242 _ _ ?_
         refine seqK fun Q250 kn251 kr252 ke253 => ?_
         refine region ?_
         refine st_c (t_call [] T.cf40 rfl rfl) (tallies40 _) ?_
         rintro _ w254 ⟨bt, rfl, hx255, hbt1, hbt2, hBt⟩
         refine ⟨_, rfl, ?_⟩
         have hF256 := hC143.ext hx255
         have hF257 := hC144.ext hx255
         have hF258 := Fam.ext hC145 hx255
         have hF259 := hC146.ext hx255
         have hF260 := hC147.ext hx255
         have hF261 := hOl.ext hx255
         have hE262 : Below w0.heap.size w0 w254 := hx255.e hx148 (Nat.le_refl _)
         have hz263 := hE262.le
         have hs264 := hx255.size
         obtain ⟨bG, cG1, eg, hcG2, hOB⟩ := hF259.ob (fun e => by injection e with _ e2 _; omega)
         injection eg with eg1 eg2 eg3
         have hOB := El1.start hOB (i := i) (by omega)
         have hiG : i < GL.length := by omega
         have hN0 : 0 < N.length := by omega
         have hNN : ∀ x ∈ N, NN x := by rw [hN2]; exact numsL_NN _ _
         refine st_q (v := .int .i64 ((2 : Nat) : Int)) (x_lenSl rfl Tryd.underlying81 rfl) ?_
         refine st_q (v := .int .i64 ((0 : Nat) : Int)) (x_move rfl) ?_
         refine st_nil ?_
         refine kn251 _ _ ?_
         refine blockK fun Q265 kn266 kr267 kx268 kb269 => ?_
         refine loopK (α := Nat × Grp) (fun x => [(1, .int .i64 ((c : Nat) : Int)), (8, .slice aG A.length cG), (9, .slice aM A.length cM), (11, .int .i64 ((i : Nat) : Int)), (12, .slice aN N.length cN), (38, .int .i64 ((A.length : Nat) : Int)), (39, .int .i64 ((i : Nat) : Int)), (69, .slice ((some ⟨bt, 0, none⟩)) 2 2), (70, .int .i64 ((2 : Nat) : Int)), (71, .int .i64 ((x.1 : Nat) : Int))]) (fun x w270 => Below w0.heap.size w0 w270 ∧ (x.1 ≤ 2 ∧ OB w270.heap w0.heap.size 44 8 bG cG1 (flat enG (GL.set i x.2)) ∧ PartJ N (el GL i) x.1 x.2) ∧ Blk w270.heap bt [.func (.func 59) #[] #[], .func (.func 60) #[] #[], .func (.func 61) #[] #[], .func (.func 62) #[] #[], .func (.func 63) #[] #[], .func (.func 64) #[] #[]] 87 ∧ Own w270.heap w0.heap.size 27 1 (.slice aM A.length cM) A.length (flat enV vs) ∧ KOK w270.heap w0.heap.size (A.map (·.1)) ∧ Fam w270.heap w0.heap.size 42 enR vs (A.map (·.2)) ∧ Own w270.heap w0.heap.size 42 1 (.slice q132 M.length c133) M.length (flat enR M) ∧ Own w270.heap w0.heap.size 22 1 (.slice aN N.length cN) N.length (flat enF N)) (fun x => 2 - x.1) (0, (el GL i)) ⟨rfl, rfl, rfl, rfl, rfl, rfl, rfl, rfl, rfl, rfl, trivial⟩ ?_ ?_
         ·
          refine ⟨hE262, ?_⟩
          try dsimp only
          refine ⟨?_, hBt, hF256, hF257, hF258, hF260, hF261⟩
          exact ⟨by omega, hOB, rfl⟩
         ·
          rintro τ271 ⟨jt, u⟩ w272 ⟨hx279, ⟨⟨hjt, hOBu, hPu⟩, hC273, hC274, hC275, hC276, hC277, hC278⟩⟩
          try dsimp only at hjt hOBu hPu hC273 hC274 hC275 hC276 hC277 hC278
          have hz280 := hx279.le
          intro Q281 kn282 kr283 ke284
          have hbtlt := hC273.lt
          refine seqK fun Q285 kn286 kr287 ke288 => ?_
          refine region ?_
          refine st_q (v := .bool (decide (jt < 2))) (x_lssN rfl rfl) ?_
          refine st_nil ?_
          refine kn286 _ _ ?_
          refine seqK fun Q289 kn290 kr291 ke292 => ?_
          refine cnd (p := jt < 2) rfl (fun h293 => ?_) (fun h293 => ?_)
          ·
           refine skip ?_
           refine kn290 _ _ ?_
           refine seqK fun Q294 kn295 kr296 ke297 => ?_
           refine blockK fun Q298 kn299 kr300 kx301 kb302 => ?_
           refine seqK fun Q303 kn304 kr305 ke306 => ?_
           refine region ?_
           have hj01 : jt = 0 ∨ jt = 1 := by omega
           rcases hj01 with rfl | rfl
           ·
            have hu0 : u = el GL i := hPu
            refine st_q (v := .pointer (some ⟨bt, 0 + 0 * 3, none⟩)) (x_index T.sl81 rfl rfl (by omega)) ?_
            refine st_q (v := .agg #[.func (.func 59) #[] #[], .func (.func 60) #[] #[], .func (.func 61) #[] #[]]) (x_loadA [.func (.func 59) #[] #[], .func (.func 60) #[] #[], .func (.func 61) #[] #[]] T.ag87 rfl (hC273.cells 0 [.func (.func 59) #[] #[], .func (.func 60) #[] #[], .func (.func 61) #[] #[]] (cells_at rfl))) ?_
            refine st_e (e_alloc T.zv87 ?_)
            intro w307 hA308
            have hx309 := hA308.ext
            have hs310 := hA308.size
            have hB311 : Blk w307.heap w272.heap.size [.nilFunc, .nilFunc, .nilFunc] 87 := hA308.new
            have hB312 := hC273.ext hx309
            have hF313 := hC274.ext hx309
            have hF314 := hC275.ext hx309
            have hF315 := Fam.ext hC276 hx309
            have hF316 := hC277.ext hx309
            have hF317 := hC278.ext hx309
            have hF318 := hOBu.ext hx309
            have hE319 : Below w0.heap.size w0 w307 := hx309.e hx279 (Nat.le_refl _)
            have hz320 := hE319.le
            have hs321 := hx309.size
            refine st_s (e_st (v := .agg #[.func (.func 59) #[] #[], .func (.func 60) #[] #[], .func (.func 61) #[] #[]]) T.sz87 rfl rfl hB311 (by simp [Value.cells]) (by rfl) ?_)
            intro w322 hP323
            have hB324 : Blk w322.heap w272.heap.size [.func (.func 59) #[] #[], .func (.func 60) #[] #[], .func (.func 61) #[] #[]] 87 := hP323.new
            have hs325 := hP323.size
            have hB326 := hB312.pt hP323 (by omega)
            have hF327 := hF313.gk (hP323.grownBy) (hB311.rowk) (by decide)
            have hF328 := hF314.gk (hP323.grownBy) (hB311.rowk) (by decide)
            have hF329 := Fam.gk hF315 (hP323.grownBy) (hB311.rowk) (by decide)
            have hF330 := hF316.gk (hP323.grownBy) (hB311.rowk) (by decide)
            have hF331 := hF317.gk (hP323.grownBy) (hB311.rowk) (by decide)
            have hF332 := hF318.gk (hP323.grownBy) (hB311.rowk) (by decide)
            have hE333 : Below w0.heap.size w0 w322 := hP323.below hE319 (by omega)
            have hz334 := hE333.le
            refine st_nil ?_
            refine kn304 _ _ ?_
            refine seqK fun Q335 kn336 kr337 ke338 => ?_
            refine regionD1 [1] [0, 1, 2, 3, 4, 5] (.one 0 (.one 1 (.one 2 (.one 3 (.one 4 (.one 5 (.one 6 .done))))))) (by kernel_rfl) (by kernel_rfl) ?_
            intro w339 hx340 hs341
            have hB342 := hB326.ext hx340
            have hB343 := hB324.ext hx340
            have hF344 := hF327.ext hx340
            have hF345 := hF328.ext hx340
            have hF346 := Fam.ext hF329 hx340
            have hF347 := hF330.ext hx340
            have hF348 := hF331.ext hx340
            have hF349 := hF332.ext hx340
            have hE350 : Below w0.heap.size w0 w339 := hx340.e hE333 (Nat.le_refl _)
            have hz351 := hE350.le
            have hs352 := hx340.size
            have hS353 : Ext w339 w339 := Below.refl _ _
            refine d_q (v := .pointer (some ⟨w272.heap.size, 0, none⟩)) rfl rfl (fun _ => x_field (o := 0) T.fa87_0 rfl) ?_
            refine d_l (v := .func (.func 59) #[] #[]) rfl rfl rfl (fun v355 hw354 => x_load1 T.na83 rfl ((hB343.one 0 rfl).ext hw354)) ?_
            refine d_q (v := .slice aG A.length cG) rfl rfl (fun _ => x_move rfl) ?_
            refine d_q (v := .int .i64 ((i : Nat) : Int)) rfl rfl (fun _ => x_move rfl) ?_
            refine d_q (v := .pointer (some ⟨bG, 0 + i * 8, none⟩)) rfl rfl (fun _ => x_index' T.sl32 rfl eg1 rfl (by omega)) ?_
            refine d_q (v := .slice aN N.length cN) rfl rfl (fun _ => x_move rfl) ?_
            refine d_e (by decide) (d_c' rfl rfl (t_call [.pointer (some ⟨bG, 0 + i * 8, none⟩), .slice aN N.length cN] T.cf59 rfl rfl) (begin59 w0.heap.size bG cG1 i GL u N _ w0.heap.size _ hF349 hiG hF348 hN0) ?_)
            rintro _ w358 ⟨rfl, u356, hu357, hM359, hO360⟩
            refine ⟨_, rfl, ?_⟩
            have hG361 := Mod.grownBy hM359
            have hlo362 := hF349.lo
            have hB363 := hB342.gk (hG361) (hF349.rowk) (by decide)
            have hB364 := hB343.gk (hG361) (hF349.rowk) (by decide)
            have hF365 := hF344.gk (hG361) (hF349.rowk) (by decide)
            have hF366 := hF345.gk (hG361) (hF349.rowk) (by decide)
            have hF367 := Fam.gk hF346 (hG361) (hF349.rowk) (by decide)
            have hF368 := hF347.gk (hG361) (hF349.rowk) (by decide)
            have hF369 := hF348.gk (hG361) (hF349.rowk) (by decide)
            have hE370 : Below w0.heap.size w0 w358 := grown_below hG361 hE350 (Nat.le_refl _) (fun b e => by have e := Option.some.inj e; omega)
            have hz371 := hE370.le
            have hs372 := hG361.size
            refine ⟨need_no (by kernel_rfl), ?_⟩
            refine d_done ?_
            refine kn336 _ _ ?_
            refine seqK fun Q373 kn374 kr375 ke376 => ?_
            refine seqK fun Q377 kn378 kr379 ke380 => ?_
            refine region ?_
            refine st_q (v := .slice aN N.length cN) (x_move rfl) ?_
            refine st_q (v := .int .i64 ((N.length : Nat) : Int)) (x_lenSl rfl Tryd.underlying78 rfl) ?_
            refine st_q (v := .int .i64 ((0 : Nat) : Int)) (x_move rfl) ?_
            refine st_nil ?_
            refine kn378 _ _ ?_
            refine blockK fun Q381 kn382 kr383 kx384 kb385 => ?_
            refine loopK (α := Nat × Grp) (fun x => [(1, .int .i64 ((c : Nat) : Int)), (8, .slice aG A.length cG), (9, .slice aM A.length cM), (11, .int .i64 ((i : Nat) : Int)), (12, .slice aN N.length cN), (18, .pointer (some ⟨w272.heap.size, 0, none⟩)), (38, .int .i64 ((A.length : Nat) : Int)), (39, .int .i64 ((i : Nat) : Int)), (69, .slice ((some ⟨bt, 0, none⟩)) 2 2), (70, .int .i64 ((2 : Nat) : Int)), (71, .int .i64 ((0 : Nat) : Int)), (82, .slice aN N.length cN), (83, .int .i64 ((N.length : Nat) : Int)), (84, .int .i64 ((x.1 : Nat) : Int))]) (fun x w386 => Below w0.heap.size w0 w386 ∧ (x.1 ≤ N.length ∧ OB w386.heap w0.heap.size 44 8 bG cG1 (flat enG (GL.set i x.2)) ∧ Each1 N (el GL i) x.1 x.2) ∧ Blk w386.heap bt [.func (.func 59) #[] #[], .func (.func 60) #[] #[], .func (.func 61) #[] #[], .func (.func 62) #[] #[], .func (.func 63) #[] #[], .func (.func 64) #[] #[]] 87 ∧ Blk w386.heap w272.heap.size [.func (.func 59) #[] #[], .func (.func 60) #[] #[], .func (.func 61) #[] #[]] 87 ∧ Own w386.heap w0.heap.size 27 1 (.slice aM A.length cM) A.length (flat enV vs) ∧ KOK w386.heap w0.heap.size (A.map (·.1)) ∧ Fam w386.heap w0.heap.size 42 enR vs (A.map (·.2)) ∧ Own w386.heap w0.heap.size 42 1 (.slice q132 M.length c133) M.length (flat enR M) ∧ Own w386.heap w0.heap.size 22 1 (.slice aN N.length cN) N.length (flat enF N)) (fun x => N.length - x.1) (0, u356) ⟨rfl, rfl, rfl, rfl, rfl, rfl, rfl, rfl, rfl, rfl, rfl, rfl, rfl, rfl, trivial⟩ ?_ ?_
            ·
             refine ⟨hE370, ?_⟩
             try dsimp only
             refine ⟨?_, hB363, hB364, hF365, hF366, hF367, hF368, hF369⟩
             exact ⟨Nat.zero_le _, hO360, Each1.start (by rw [hu357, hu0])⟩
            ·
             rintro τ387 ⟨k, u4⟩ w388 ⟨hx396, ⟨⟨hk, hOB4, hEk⟩, hC389, hC390, hC391, hC392, hC393, hC394, hC395⟩⟩
             try dsimp only at hk hOB4 hEk hC389 hC390 hC391 hC392 hC393 hC394 hC395
             have hz397 := hx396.le
             intro Q398 kn399 kr400 ke401
             refine seqK fun Q402 kn403 kr404 ke405 => ?_
             refine region ?_
             refine st_q (v := .bool (decide (k < N.length))) (x_lssN rfl rfl) ?_
             refine st_nil ?_
             refine kn403 _ _ ?_
             refine seqK fun Q406 kn407 kr408 ke409 => ?_
             refine cnd (p := k < N.length) rfl (fun h410 => ?_) (fun h410 => ?_)
             ·
              refine skip ?_
              refine kn407 _ _ ?_
              refine seqK fun Q411 kn412 kr413 ke414 => ?_
              refine blockK fun Q415 kn416 kr417 kx418 kb419 => ?_
              refine seqK fun Q420 kn421 kr422 ke423 => ?_
              refine region ?_
              obtain ⟨b424, o425, ha426, hc427⟩ := hC395.src.at (by omega)
              refine st_q (v := .pointer (some ⟨b424, o425 + k * 1, none⟩)) (x_index' T.sl78 rfl ha426 rfl (by omega)) ?_
              refine st_q (v := .float .f64 ((el N k))) (x_load1 T.na22 rfl (hc427.elem enF_len (i := k) (by omega))) ?_
              refine st_q (v := .float .f64 ((el N k))) (x_assign rfl) ?_
              refine st_nil ?_
              refine kn421 _ _ ?_
              refine regionD1 [1] [0, 1, 2, 3, 4, 5] (.one 0 (.one 1 (.one 2 (.one 3 (.one 4 (.one 5 (.one 6 .done))))))) (by kernel_rfl) (by kernel_rfl) ?_
              intro w428 hx429 hs430
              have hB431 := hC389.ext hx429
              have hB432 := hC390.ext hx429
              have hF433 := hC391.ext hx429
              have hF434 := hC392.ext hx429
              have hF435 := Fam.ext hC393 hx429
              have hF436 := hC394.ext hx429
              have hF437 := hC395.ext hx429
              have hF438 := hOB4.ext hx429
              have hF439 := hc427.ext hx429
              have hE440 : Below w0.heap.size w0 w428 := hx429.e hx396 (Nat.le_refl _)
              have hz441 := hE440.le
              have hs442 := hx429.size
              have hS443 : Ext w428 w428 := Below.refl _ _
              refine d_q (v := .pointer (some ⟨w272.heap.size, 1, none⟩)) rfl rfl (fun _ => x_field (o := 0) T.fa87_1 rfl) ?_
              refine d_l (v := .func (.func 60) #[] #[]) rfl rfl rfl (fun v445 hw444 => x_load1 T.na84 rfl ((hB432.one 1 rfl).ext hw444)) ?_
              refine d_q (v := .slice aG A.length cG) rfl rfl (fun _ => x_move rfl) ?_
              refine d_q (v := .int .i64 ((i : Nat) : Int)) rfl rfl (fun _ => x_move rfl) ?_
              refine d_q (v := .pointer (some ⟨bG, 0 + i * 8, none⟩)) rfl rfl (fun _ => x_index' T.sl32 rfl eg1 rfl (by omega)) ?_
              refine d_q (v := .float .f64 ((el N k))) rfl rfl (fun _ => x_move rfl) ?_
              refine d_e (by decide) (d_c' rfl rfl (t_call [.pointer (some ⟨bG, 0 + i * 8, none⟩), .float .f64 ((el N k))] T.cf60 rfl rfl) (each60 w0.heap.size bG cG1 i GL u4 (el N k) _ hF438 hiG (hEk.nn hN0 hNN (by omega)).1 (hEk.nn hN0 hNN (by omega)).2 (hNN _ (el_mem' (by omega)))) ?_)
              rintro _ w448 ⟨rfl, u446, hu447, hM449, hO450⟩
              refine ⟨_, rfl, ?_⟩
              have hG451 := Mod.grownBy hM449
              have hlo452 := hF438.lo
              have hB453 := hB431.gk (hG451) (hF438.rowk) (by decide)
              have hB454 := hB432.gk (hG451) (hF438.rowk) (by decide)
              have hF455 := hF433.gk (hG451) (hF438.rowk) (by decide)
              have hF456 := hF434.gk (hG451) (hF438.rowk) (by decide)
              have hF457 := Fam.gk hF435 (hG451) (hF438.rowk) (by decide)
              have hF458 := hF436.gk (hG451) (hF438.rowk) (by decide)
              have hF459 := hF437.gk (hG451) (hF438.rowk) (by decide)
              have hE461 : Below w0.heap.size w0 w448 := grown_below hG451 hE440 (Nat.le_refl _) (fun b e => by have e := Option.some.inj e; omega)
              have hz462 := hE461.le
              have hs463 := hG451.size
              refine ⟨need_no (by kernel_rfl), ?_⟩
              refine d_done ?_
              refine kn416 _ _ ?_
              refine kn412 _ _ ?_
              refine region ?_
              refine st_q (v := .int .i64 (((k + 1) : Nat) : Int)) (x_addN rfl rfl (by omega)) ?_
              refine st_q (v := .int .i64 (((k + 1) : Nat) : Int)) (x_move rfl) ?_
              refine st_nil ?_
              refine kn399 _ ((k + 1), u446) _ ⟨rfl, rfl, rfl, rfl, rfl, rfl, rfl, rfl, rfl, rfl, rfl, rfl, rfl, rfl, trivial⟩ ⟨hE461, ?_⟩ ?_
              ·
               try dsimp only
               refine ⟨?_, hB453, hB454, hF455, hF456, hF457, hF458, hF459⟩
               exact ⟨by omega, hO450, hEk.step (by omega) hu447⟩
              ·
               (try dsimp only); omega
             ·
              refine exit ?_
              refine ke409 _ _ _ ?_
              refine ke401 _ _ _ ?_
              refine kb385 _ _ ?_
              refine kn374 _ _ ?_
              refine regionD1 [1] [0, 1, 2, 3, 4] (.one 0 (.one 1 (.one 2 (.one 3 (.one 4 (.one 5 .done)))))) (by kernel_rfl) (by kernel_rfl) ?_
              intro w464 hx465 hs466
              have hB467 := hC389.ext hx465
              have hB468 := hC390.ext hx465
              have hF469 := hC391.ext hx465
              have hF470 := hC392.ext hx465
              have hF471 := Fam.ext hC393 hx465
              have hF472 := hC394.ext hx465
              have hF473 := hC395.ext hx465
              have hF474 := hOB4.ext hx465
              have hE475 : Below w0.heap.size w0 w464 := hx465.e hx396 (Nat.le_refl _)
              have hz476 := hE475.le
              have hs477 := hx465.size
              have hS478 : Ext w464 w464 := Below.refl _ _
              refine d_q (v := .pointer (some ⟨w272.heap.size, 2, none⟩)) rfl rfl (fun _ => x_field (o := 0) T.fa87_2 rfl) ?_
              refine d_l (v := .func (.func 61) #[] #[]) rfl rfl rfl (fun v480 hw479 => x_load1 T.na85 rfl ((hB468.one 2 rfl).ext hw479)) ?_
              refine d_q (v := .slice aG A.length cG) rfl rfl (fun _ => x_move rfl) ?_
              refine d_q (v := .int .i64 ((i : Nat) : Int)) rfl rfl (fun _ => x_move rfl) ?_
              refine d_q (v := .pointer (some ⟨bG, 0 + i * 8, none⟩)) rfl rfl (fun _ => x_index' T.sl32 rfl eg1 rfl (by omega)) ?_
              refine d_e (by decide) (d_c' rfl rfl (t_call [.pointer (some ⟨bG, 0 + i * 8, none⟩)] T.cf61 rfl rfl) (end61 w0.heap.size bG cG1 i GL u4 _ hF474 hiG) ?_)
              rintro _ w483 ⟨rfl, u481, hu482, hM484, hO485⟩
              refine ⟨_, rfl, ?_⟩
              have hG486 := Mod.grownBy hM484
              have hlo487 := hF474.lo
              have hB488 := hB467.gk (hG486) (hF474.rowk) (by decide)
              have hB489 := hB468.gk (hG486) (hF474.rowk) (by decide)
              have hF490 := hF469.gk (hG486) (hF474.rowk) (by decide)
              have hF491 := hF470.gk (hG486) (hF474.rowk) (by decide)
              have hF492 := Fam.gk hF471 (hG486) (hF474.rowk) (by decide)
              have hF493 := hF472.gk (hG486) (hF474.rowk) (by decide)
              have hF494 := hF473.gk (hG486) (hF474.rowk) (by decide)
              have hE495 : Below w0.heap.size w0 w483 := grown_below hG486 hE475 (Nat.le_refl _) (fun b e => by have e := Option.some.inj e; omega)
              have hz496 := hE495.le
              have hs497 := hG486.size
              refine ⟨need_no (by kernel_rfl), ?_⟩
              have hu482x := Part1.of hEk (by omega) hu482
              refine d_done ?_
              refine kn299 _ _ ?_
              refine kn295 _ _ ?_
              refine region ?_
              refine st_q (v := .int .i64 (((0 + 1) : Nat) : Int)) (x_addN rfl rfl (by omega)) ?_
              refine st_q (v := .int .i64 (((0 + 1) : Nat) : Int)) (x_move rfl) ?_
              refine st_nil ?_
              refine kn282 _ ((0 + 1), u481) _ ⟨rfl, rfl, rfl, rfl, rfl, rfl, rfl, rfl, rfl, rfl, trivial⟩ ⟨hE495, ?_⟩ ?_
              ·
               try dsimp only
               refine ⟨?_, hB488, hF490, hF491, hF492, hF493, hF494⟩
               exact ⟨by omega, hO485, (show PartJ N (el GL i) 1 _ from hu482x)⟩
              ·
               (try dsimp only); omega
           ·
            have hu1 : Part1 N (el GL i) u := hPu
            refine st_q (v := .pointer (some ⟨bt, 0 + 1 * 3, none⟩)) (x_index T.sl81 rfl rfl (by omega)) ?_
            refine st_q (v := .agg #[.func (.func 62) #[] #[], .func (.func 63) #[] #[], .func (.func 64) #[] #[]]) (x_loadA [.func (.func 62) #[] #[], .func (.func 63) #[] #[], .func (.func 64) #[] #[]] T.ag87 rfl (hC273.cells 3 [.func (.func 62) #[] #[], .func (.func 63) #[] #[], .func (.func 64) #[] #[]] (cells_at rfl))) ?_
            refine st_e (e_alloc T.zv87 ?_)
            intro w498 hA499
            have hx500 := hA499.ext
            have hs501 := hA499.size
            have hB502 : Blk w498.heap w272.heap.size [.nilFunc, .nilFunc, .nilFunc] 87 := hA499.new
            have hB503 := hC273.ext hx500
            have hF504 := hC274.ext hx500
            have hF505 := hC275.ext hx500
            have hF506 := Fam.ext hC276 hx500
            have hF507 := hC277.ext hx500
            have hF508 := hC278.ext hx500
            have hF509 := hOBu.ext hx500
            have hE510 : Below w0.heap.size w0 w498 := hx500.e hx279 (Nat.le_refl _)
            have hz511 := hE510.le
            have hs512 := hx500.size
            refine st_s (e_st (v := .agg #[.func (.func 62) #[] #[], .func (.func 63) #[] #[], .func (.func 64) #[] #[]]) T.sz87 rfl rfl hB502 (by simp [Value.cells]) (by rfl) ?_)
            intro w513 hP514
            have hB515 : Blk w513.heap w272.heap.size [.func (.func 62) #[] #[], .func (.func 63) #[] #[], .func (.func 64) #[] #[]] 87 := hP514.new
            have hs516 := hP514.size
            have hB517 := hB503.pt hP514 (by omega)
            have hF518 := hF504.gk (hP514.grownBy) (hB502.rowk) (by decide)
            have hF519 := hF505.gk (hP514.grownBy) (hB502.rowk) (by decide)
            have hF520 := Fam.gk hF506 (hP514.grownBy) (hB502.rowk) (by decide)
            have hF521 := hF507.gk (hP514.grownBy) (hB502.rowk) (by decide)
            have hF522 := hF508.gk (hP514.grownBy) (hB502.rowk) (by decide)
            have hF523 := hF509.gk (hP514.grownBy) (hB502.rowk) (by decide)
            have hE524 : Below w0.heap.size w0 w513 := hP514.below hE510 (by omega)
            have hz525 := hE524.le
            refine st_nil ?_
            refine kn304 _ _ ?_
            refine seqK fun Q526 kn527 kr528 ke529 => ?_
            refine regionD1 [1] [0, 1, 2, 3, 4, 5] (.one 0 (.one 1 (.one 2 (.one 3 (.one 4 (.one 5 (.one 6 .done))))))) (by kernel_rfl) (by kernel_rfl) ?_
            intro w530 hx531 hs532
            have hB533 := hB517.ext hx531
            have hB534 := hB515.ext hx531
            have hF535 := hF518.ext hx531
            have hF536 := hF519.ext hx531
            have hF537 := Fam.ext hF520 hx531
            have hF538 := hF521.ext hx531
            have hF539 := hF522.ext hx531
            have hF540 := hF523.ext hx531
            have hE541 : Below w0.heap.size w0 w530 := hx531.e hE524 (Nat.le_refl _)
            have hz542 := hE541.le
            have hs543 := hx531.size
            have hS544 : Ext w530 w530 := Below.refl _ _
            refine d_q (v := .pointer (some ⟨w272.heap.size, 0, none⟩)) rfl rfl (fun _ => x_field (o := 0) T.fa87_0 rfl) ?_
            refine d_l (v := .func (.func 62) #[] #[]) rfl rfl rfl (fun v546 hw545 => x_load1 T.na83 rfl ((hB534.one 0 rfl).ext hw545)) ?_
            refine d_q (v := .slice aG A.length cG) rfl rfl (fun _ => x_move rfl) ?_
            refine d_q (v := .int .i64 ((i : Nat) : Int)) rfl rfl (fun _ => x_move rfl) ?_
            refine d_q (v := .pointer (some ⟨bG, 0 + i * 8, none⟩)) rfl rfl (fun _ => x_index' T.sl32 rfl eg1 rfl (by omega)) ?_
            refine d_q (v := .slice aN N.length cN) rfl rfl (fun _ => x_move rfl) ?_
            refine d_e (by decide) (d_c' rfl rfl (t_call [.pointer (some ⟨bG, 0 + i * 8, none⟩), .slice aN N.length cN] T.cf62 rfl rfl) (begin62 w0.heap.size bG cG1 i GL u _ _ hF540 hiG) ?_)
            rintro _ w549 ⟨rfl, u547, hu548, hM550, hO551⟩
            refine ⟨_, rfl, ?_⟩
            have hG552 := Mod.grownBy hM550
            have hlo553 := hF540.lo
            have hB554 := hB533.gk (hG552) (hF540.rowk) (by decide)
            have hB555 := hB534.gk (hG552) (hF540.rowk) (by decide)
            have hF556 := hF535.gk (hG552) (hF540.rowk) (by decide)
            have hF557 := hF536.gk (hG552) (hF540.rowk) (by decide)
            have hF558 := Fam.gk hF537 (hG552) (hF540.rowk) (by decide)
            have hF559 := hF538.gk (hG552) (hF540.rowk) (by decide)
            have hF560 := hF539.gk (hG552) (hF540.rowk) (by decide)
            have hE561 : Below w0.heap.size w0 w549 := grown_below hG552 hE541 (Nat.le_refl _) (fun b e => by have e := Option.some.inj e; omega)
            have hz562 := hE561.le
            have hs563 := hG552.size
            refine ⟨need_no (by kernel_rfl), ?_⟩
            refine d_done ?_
            refine kn527 _ _ ?_
            refine seqK fun Q564 kn565 kr566 ke567 => ?_
            refine seqK fun Q568 kn569 kr570 ke571 => ?_
            refine region ?_
            refine st_q (v := .slice aN N.length cN) (x_move rfl) ?_
            refine st_q (v := .int .i64 ((N.length : Nat) : Int)) (x_lenSl rfl Tryd.underlying78 rfl) ?_
            refine st_q (v := .int .i64 ((0 : Nat) : Int)) (x_move rfl) ?_
            refine st_nil ?_
            refine kn569 _ _ ?_
            refine blockK fun Q572 kn573 kr574 kx575 kb576 => ?_
            refine loopK (α := Nat × Grp) (fun x => [(1, .int .i64 ((c : Nat) : Int)), (8, .slice aG A.length cG), (9, .slice aM A.length cM), (11, .int .i64 ((i : Nat) : Int)), (12, .slice aN N.length cN), (18, .pointer (some ⟨w272.heap.size, 0, none⟩)), (38, .int .i64 ((A.length : Nat) : Int)), (39, .int .i64 ((i : Nat) : Int)), (69, .slice ((some ⟨bt, 0, none⟩)) 2 2), (70, .int .i64 ((2 : Nat) : Int)), (71, .int .i64 ((1 : Nat) : Int)), (82, .slice aN N.length cN), (83, .int .i64 ((N.length : Nat) : Int)), (84, .int .i64 ((x.1 : Nat) : Int))]) (fun x w577 => Below w0.heap.size w0 w577 ∧ (x.1 ≤ N.length ∧ OB w577.heap w0.heap.size 44 8 bG cG1 (flat enG (GL.set i x.2)) ∧ Each2 N u x.1 x.2) ∧ Blk w577.heap bt [.func (.func 59) #[] #[], .func (.func 60) #[] #[], .func (.func 61) #[] #[], .func (.func 62) #[] #[], .func (.func 63) #[] #[], .func (.func 64) #[] #[]] 87 ∧ Blk w577.heap w272.heap.size [.func (.func 62) #[] #[], .func (.func 63) #[] #[], .func (.func 64) #[] #[]] 87 ∧ Own w577.heap w0.heap.size 27 1 (.slice aM A.length cM) A.length (flat enV vs) ∧ KOK w577.heap w0.heap.size (A.map (·.1)) ∧ Fam w577.heap w0.heap.size 42 enR vs (A.map (·.2)) ∧ Own w577.heap w0.heap.size 42 1 (.slice q132 M.length c133) M.length (flat enR M) ∧ Own w577.heap w0.heap.size 22 1 (.slice aN N.length cN) N.length (flat enF N)) (fun x => N.length - x.1) (0, u547) ⟨rfl, rfl, rfl, rfl, rfl, rfl, rfl, rfl, rfl, rfl, rfl, rfl, rfl, rfl, trivial⟩ ?_ ?_
            ·
             refine ⟨hE561, ?_⟩
             try dsimp only
             refine ⟨?_, hB554, hB555, hF556, hF557, hF558, hF559, hF560⟩
             exact ⟨Nat.zero_le _, hO551, Each2.start hu548⟩
            ·
             rintro τ578 ⟨k, u4⟩ w579 ⟨hx587, ⟨⟨hk, hOB4, hEk⟩, hC580, hC581, hC582, hC583, hC584, hC585, hC586⟩⟩
             try dsimp only at hk hOB4 hEk hC580 hC581 hC582 hC583 hC584 hC585 hC586
             have hz588 := hx587.le
             intro Q589 kn590 kr591 ke592
             refine seqK fun Q593 kn594 kr595 ke596 => ?_
             refine region ?_
             refine st_q (v := .bool (decide (k < N.length))) (x_lssN rfl rfl) ?_
             refine st_nil ?_
             refine kn594 _ _ ?_
             refine seqK fun Q597 kn598 kr599 ke600 => ?_
             refine cnd (p := k < N.length) rfl (fun h601 => ?_) (fun h601 => ?_)
             ·
              refine skip ?_
              refine kn598 _ _ ?_
              refine seqK fun Q602 kn603 kr604 ke605 => ?_
              refine blockK fun Q606 kn607 kr608 kx609 kb610 => ?_
              refine seqK fun Q611 kn612 kr613 ke614 => ?_
              refine region ?_
              obtain ⟨b615, o616, ha617, hc618⟩ := hC586.src.at (by omega)
              refine st_q (v := .pointer (some ⟨b615, o616 + k * 1, none⟩)) (x_index' T.sl78 rfl ha617 rfl (by omega)) ?_
              refine st_q (v := .float .f64 ((el N k))) (x_load1 T.na22 rfl (hc618.elem enF_len (i := k) (by omega))) ?_
              refine st_q (v := .float .f64 ((el N k))) (x_assign rfl) ?_
              refine st_nil ?_
              refine kn612 _ _ ?_
              refine regionD1 [1] [0, 1, 2, 3, 4, 5] (.one 0 (.one 1 (.one 2 (.one 3 (.one 4 (.one 5 (.one 6 .done))))))) (by kernel_rfl) (by kernel_rfl) ?_
              intro w619 hx620 hs621
              have hB622 := hC580.ext hx620
              have hB623 := hC581.ext hx620
              have hF624 := hC582.ext hx620
              have hF625 := hC583.ext hx620
              have hF626 := Fam.ext hC584 hx620
              have hF627 := hC585.ext hx620
              have hF628 := hC586.ext hx620
              have hF629 := hOB4.ext hx620
              have hF630 := hc618.ext hx620
              have hE631 : Below w0.heap.size w0 w619 := hx620.e hx587 (Nat.le_refl _)
              have hz632 := hE631.le
              have hs633 := hx620.size
              have hS634 : Ext w619 w619 := Below.refl _ _
              refine d_q (v := .pointer (some ⟨w272.heap.size, 1, none⟩)) rfl rfl (fun _ => x_field (o := 0) T.fa87_1 rfl) ?_
              refine d_l (v := .func (.func 63) #[] #[]) rfl rfl rfl (fun v636 hw635 => x_load1 T.na84 rfl ((hB623.one 1 rfl).ext hw635)) ?_
              refine d_q (v := .slice aG A.length cG) rfl rfl (fun _ => x_move rfl) ?_
              refine d_q (v := .int .i64 ((i : Nat) : Int)) rfl rfl (fun _ => x_move rfl) ?_
              refine d_q (v := .pointer (some ⟨bG, 0 + i * 8, none⟩)) rfl rfl (fun _ => x_index' T.sl32 rfl eg1 rfl (by omega)) ?_
              refine d_q (v := .float .f64 ((el N k))) rfl rfl (fun _ => x_move rfl) ?_
              refine d_e (by decide) (d_c' rfl rfl (t_call [.pointer (some ⟨bG, 0 + i * 8, none⟩), .float .f64 ((el N k))] T.cf63 rfl rfl) (each63 w0.heap.size bG cG1 i GL u4 (el N k) _ hF629 hiG) ?_)
              rintro _ w639 ⟨rfl, u637, hu638, hM640, hO641⟩
              refine ⟨_, rfl, ?_⟩
              have hG642 := Mod.grownBy hM640
              have hlo643 := hF629.lo
              have hB644 := hB622.gk (hG642) (hF629.rowk) (by decide)
              have hB645 := hB623.gk (hG642) (hF629.rowk) (by decide)
              have hF646 := hF624.gk (hG642) (hF629.rowk) (by decide)
              have hF647 := hF625.gk (hG642) (hF629.rowk) (by decide)
              have hF648 := Fam.gk hF626 (hG642) (hF629.rowk) (by decide)
              have hF649 := hF627.gk (hG642) (hF629.rowk) (by decide)
              have hF650 := hF628.gk (hG642) (hF629.rowk) (by decide)
              have hE652 : Below w0.heap.size w0 w639 := grown_below hG642 hE631 (Nat.le_refl _) (fun b e => by have e := Option.some.inj e; omega)
              have hz653 := hE652.le
              have hs654 := hG642.size
              refine ⟨need_no (by kernel_rfl), ?_⟩
              refine d_done ?_
              refine kn607 _ _ ?_
              refine kn603 _ _ ?_
              refine region ?_
              refine st_q (v := .int .i64 (((k + 1) : Nat) : Int)) (x_addN rfl rfl (by omega)) ?_
              refine st_q (v := .int .i64 (((k + 1) : Nat) : Int)) (x_move rfl) ?_
              refine st_nil ?_
              refine kn590 _ ((k + 1), u637) _ ⟨rfl, rfl, rfl, rfl, rfl, rfl, rfl, rfl, rfl, rfl, rfl, rfl, rfl, rfl, trivial⟩ ⟨hE652, ?_⟩ ?_
              ·
               try dsimp only
               refine ⟨?_, hB644, hB645, hF646, hF647, hF648, hF649, hF650⟩
               exact ⟨by omega, hO641, hEk.step hu638⟩
              ·
               (try dsimp only); omega
             ·
              refine exit ?_
              refine ke600 _ _ _ ?_
              refine ke592 _ _ _ ?_
              refine kb576 _ _ ?_
              refine kn565 _ _ ?_
              refine regionD1 [1] [0, 1, 2, 3, 4] (.one 0 (.one 1 (.one 2 (.one 3 (.one 4 (.one 5 .done)))))) (by kernel_rfl) (by kernel_rfl) ?_
              intro w655 hx656 hs657
              have hB658 := hC580.ext hx656
              have hB659 := hC581.ext hx656
              have hF660 := hC582.ext hx656
              have hF661 := hC583.ext hx656
              have hF662 := Fam.ext hC584 hx656
              have hF663 := hC585.ext hx656
              have hF664 := hC586.ext hx656
              have hF665 := hOB4.ext hx656
              have hE666 : Below w0.heap.size w0 w655 := hx656.e hx587 (Nat.le_refl _)
              have hz667 := hE666.le
              have hs668 := hx656.size
              have hS669 : Ext w655 w655 := Below.refl _ _
              refine d_q (v := .pointer (some ⟨w272.heap.size, 2, none⟩)) rfl rfl (fun _ => x_field (o := 0) T.fa87_2 rfl) ?_
              refine d_l (v := .func (.func 64) #[] #[]) rfl rfl rfl (fun v671 hw670 => x_load1 T.na85 rfl ((hB659.one 2 rfl).ext hw670)) ?_
              refine d_q (v := .slice aG A.length cG) rfl rfl (fun _ => x_move rfl) ?_
              refine d_q (v := .int .i64 ((i : Nat) : Int)) rfl rfl (fun _ => x_move rfl) ?_
              refine d_q (v := .pointer (some ⟨bG, 0 + i * 8, none⟩)) rfl rfl (fun _ => x_index' T.sl32 rfl eg1 rfl (by omega)) ?_
              refine d_e (by decide) (d_c' rfl rfl (t_call [.pointer (some ⟨bG, 0 + i * 8, none⟩)] T.cf64 rfl rfl) (end64 w0.heap.size bG cG1 i GL u4 _ hF665 hiG) ?_)
              rintro _ w674 ⟨rfl, u672, hu673, hM675, hO676⟩
              refine ⟨_, rfl, ?_⟩
              have hG677 := Mod.grownBy hM675
              have hlo678 := hF665.lo
              have hB679 := hB658.gk (hG677) (hF665.rowk) (by decide)
              have hB680 := hB659.gk (hG677) (hF665.rowk) (by decide)
              have hF681 := hF660.gk (hG677) (hF665.rowk) (by decide)
              have hF682 := hF661.gk (hG677) (hF665.rowk) (by decide)
              have hF683 := Fam.gk hF662 (hG677) (hF665.rowk) (by decide)
              have hF684 := hF663.gk (hG677) (hF665.rowk) (by decide)
              have hF685 := hF664.gk (hG677) (hF665.rowk) (by decide)
              have hE686 : Below w0.heap.size w0 w674 := grown_below hG677 hE666 (Nat.le_refl _) (fun b e => by have e := Option.some.inj e; omega)
              have hz687 := hE686.le
              have hs688 := hG677.size
              refine ⟨need_no (by kernel_rfl), ?_⟩
              have hu673x := Part2.of hEk hu1.numbers (by omega) hu673
              refine d_done ?_
              refine kn299 _ _ ?_
              refine kn295 _ _ ?_
              refine region ?_
              refine st_q (v := .int .i64 (((1 + 1) : Nat) : Int)) (x_addN rfl rfl (by omega)) ?_
              refine st_q (v := .int .i64 (((1 + 1) : Nat) : Int)) (x_move rfl) ?_
              refine st_nil ?_
              refine kn282 _ ((1 + 1), u672) _ ⟨rfl, rfl, rfl, rfl, rfl, rfl, rfl, rfl, rfl, rfl, trivial⟩ ⟨hE686, ?_⟩ ?_
              ·
               try dsimp only
               refine ⟨?_, hB679, hF681, hF682, hF683, hF684, hF685⟩
               exact ⟨by omega, hO676, (show PartJ N (el GL i) 2 _ from ⟨_, hu1, hu673x⟩)⟩
              ·
               (try dsimp only); omega
          ·
           refine exit ?_
           refine ke292 _ _ _ ?_
           refine ke284 _ _ _ ?_
           refine kb269 _ _ ?_
           refine kn96 _ _ ?_
           refine kn92 _ _ ?_
           refine region ?_
           obtain ⟨uF, huF⟩ : ∃ uF, uF = u := ⟨_, rfl⟩
           have hOgF : Own w272.heap w0.heap.size 44 8 (.slice aG A.length cG) A.length (flat enG (GL.set i uF)) := by rw [eg1, eg3, huF]; exact hOBu.own (by omega) (by rw [flat_length enG_len, List.length_set]; omega)
           have hfill : IsFill (numsL c (tp (el A i).2)) (toG (el A i)) uF := by rw [← hN2, ← hg0, huF]; exact hPu.fill (by omega) hN0
           refine st_q (v := .int .i64 (((i + 1) : Nat) : Int)) (x_addN rfl rfl (by omega)) ?_
           refine st_q (v := .int .i64 (((i + 1) : Nat) : Int)) (x_move rfl) ?_
           refine st_nil ?_
           refine kn79 _ ((i + 1), (GL.set i uF)) _ ⟨rfl, rfl, rfl, rfl, rfl, trivial⟩ ⟨hx279, ?_⟩ ?_
           ·
            try dsimp only
            refine ⟨?_, hC274, hC275, hC276⟩
            refine ⟨by omega, hOgF, by rw [List.length_set]; exact hGl, fun j hj => ?_, fun j h1 h2 => ?_⟩
            · by_cases he : j = i
              · subst he; rw [el_set_here (by omega)]; exact hfill
              · rw [el_set_off (fun e => he e.symm)]; exact hdone j (by omega)
            · rw [el_set_off (by omega)]; exact hrest j (by omega) h2
           ·
            (try dsimp only); omega
     ·
      refine exit ?_
      refine ke89 _ _ _ ?_
      refine ke81 _ _ _ ?_
      refine kb69 _ _ ?_
      refine kn58 _ _ ?_
      refine seqK fun Q689 kn690 kr691 ke692 => ?_
      refine region ?_
      refine st_q (v := .slice aG A.length cG) (x_move rfl) ?_
      refine st_q (v := .slice aG A.length cG) (x_assign rfl) ?_
      refine st_q (v := .int .i64 ((0 : Nat) : Int)) (x_assign rfl) ?_
      refine st_nil ?_
      refine kn690 _ _ ?_
      refine ret ?_
      refine leave2 (P := Tryd.prog) (fn := Tryd.f15) (t := 6) (u := 7) (v := .slice aG A.length cG) (v' := .int .i64 ((0 : Nat) : Int)) rfl rfl rfl ?_
      exact ⟨_, A, GL, rfl, hx76, hOgi, hC74, hAg, hGl, fun j hj => hdone j (by omega), hAL⟩

end Go.Proofs.YtegpcbckiehleaaDoor
