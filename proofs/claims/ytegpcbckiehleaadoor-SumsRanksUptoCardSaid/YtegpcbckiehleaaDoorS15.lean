import Derived.Test.YtegpcbckiehleaaDoorS14
import Derived.Test.YtegpcbckiehleaaDoorSRank
namespace Go.Proofs.YtegpcbckiehleaaDoor
open Go.RowKit Go.Eng Go.OrdPure Go.Flt
theorem T.cf34 : CF Tryd.prog 34 := fun _ _ => by kernel_rfl
theorem T.cf35 : CF Tryd.prog 35 := fun _ _ => by kernel_rfl
theorem T.cf22 : CF Tryd.prog 22 := fun _ _ => by kernel_rfl

theorem cols_one {ar c : Int} {P : List Tup} : (RightR ar P ∧ ColsOK ar [c]) ↔ rightB ar P [c] := by
  refine ⟨fun h => ⟨h.1, fun i hi => (h.2 i hi).1⟩, fun h => ⟨h.1, fun i hi => ⟨h.2 i hi, fun k hk => ?_⟩⟩⟩
  have : i < 1 := hi
  omega
set_option maxHeartbeats 4000000 in
theorem refrank20e (pr : ByteArray) (ar : Int) (L : List Row) (va : Value) (c : Int) (w0 : World) (ha : Src w0.heap va L.length 1 (flat enR L)) (hL : RowsP w0.heap L) (hbad : ¬ (RightR ar (tp L) ∧ ColsOK ar [c])) : Calls Tryd.prog 20 #[.agg #[.string pr, .int .i64 ar, va], .int .i64 c] w0 fun e w' => e = .returned (.tuple #[.slice none 0 0, .int .i64 2]) ∧ Ext w0 w' := by
  have hE0 : Below w0.heap.size w0 w0 := Below.refl _ _
  have hz0 := hE0.le
  obtain ⟨a, ca, rfl, hca, hca1⟩ := ha.form
  refine enter Tryd.func20 rfl 116 Tryd.ntmps20 rfl ?_
  refine seqK fun Q1 kn2 kr3 ke4 => ?_
  refine region ?_
  refine st_e (e_box (v := .agg #[.string pr, .int .i64 ar, .slice a L.length ca]) rfl ?_)
  intro w5 hA6
  have hx7 := hA6.ext
  have hs8 := hA6.size
  have hB9 : Blk w5.heap w0.heap.size [.string pr, .int .i64 ar, .slice a L.length ca] 29 := hA6.new
  have hE10 : Below w0.heap.size w0 w5 := hx7.e hE0 (Nat.le_refl _)
  have hz11 := hE10.le
  have hs12 := hx7.size
  refine st_q (v := .slice none 0 0) (x_assign rfl) ?_
  refine st_q (v := .int .i64 ((0 : Nat) : Int)) (x_assign rfl) ?_
  refine st_nil ?_
  refine kn2 _ _ ?_
  refine seqK fun Q13 kn14 kr15 ke16 => ?_
  refine seqK fun Q17 kn18 kr19 ke20 => ?_
  refine region ?_
  refine st_q (v := .agg #[.string pr, .int .i64 ar, .slice a L.length ca]) (x_loadA [.string pr, .int .i64 ar, .slice a L.length ca] T.ag29 rfl (hB9.cells 0 [.string pr, .int .i64 ar, .slice a L.length ca] (cells_at rfl))) ?_
  refine st_c (t_call [.agg #[.string pr, .int .i64 ar, .slice a L.length ca]] T.cf34 rfl rfl) (right34 pr ar L _ _ (ha.below hE10) (RowsP.below hL hE10)) ?_
  rintro _ w21 ⟨rfl, hx22⟩
  refine ⟨_, rfl, ?_⟩
  have hB23 := hB9.ext hx22
  have hE24 : Below w0.heap.size w0 w21 := hx22.e hE10 (Nat.le_refl _)
  have hz25 := hE24.le
  have hs26 := hx22.size
  refine st_q (v := .bool (decide (¬ (RightR ar (tp L))))) (x_notP rfl) ?_
  refine st_if (p := ¬ (RightR ar (tp L))) (x_move rfl) (fun h27 => ?_) (fun h27 => ?_)
  ·
    refine st_gn 3 21 rfl rfl (by decide) rfl ?_
    refine st_gn 3 21 rfl rfl (by decide) rfl ?_
    refine st_gn 3 21 rfl rfl (by decide) rfl ?_
    refine st_gn 3 21 rfl rfl (by decide) rfl ?_
    refine st_gn 3 21 rfl rfl (by decide) rfl ?_
    refine st_q (v := .bool true) (x_pickT rfl rfl) ?_
    refine st_nil ?_
    refine kn18 _ _ ?_
    refine cndT rfl ?_
    refine seqK fun Q28 kn29 kr30 ke31 => ?_
    refine region ?_
    refine st_q (v := .slice none 0 0) (x_assign rfl) ?_
    refine st_q (v := .int .i64 ((2 : Nat) : Int)) (x_assign rfl) ?_
    refine st_nil ?_
    refine kn29 _ _ ?_
    refine ret ?_
    refine kr15 _ _ ?_
    refine leave2 (P := Tryd.prog) (fn := Tryd.f20) (t := 4) (u := 5) (v := .slice none 0 0) (v' := .int .i64 ((2 : Nat) : Int)) rfl rfl rfl ?_
    exact ⟨rfl, hE24⟩
  ·
    refine st_gq 3 21 rfl rfl (by decide) ?_
    refine st_q (v := .agg #[.string pr, .int .i64 ar, .slice a L.length ca]) (x_loadA [.string pr, .int .i64 ar, .slice a L.length ca] T.ag29 rfl (hB23.cells 0 [.string pr, .int .i64 ar, .slice a L.length ca] (cells_at rfl))) ?_
    refine st_gq 3 21 rfl rfl (by decide) ?_
    refine st_q (v := .int .i64 c) (x_move rfl) ?_
    refine st_gq 3 21 rfl rfl (by decide) ?_
    refine st_e (e_buildSlice (cs := [.int .i64 c]) (e := 3) (fun _ => by kernel_rfl) ?_)
    intro w32 hA33
    have hx34 := hA33.ext
    have hs35 := hA33.size
    have hB36 : Blk w32.heap w21.heap.size [.int .i64 c] 3 := hA33.new
    have hB37 := hB23.ext hx34
    have hE38 : Below w0.heap.size w0 w32 := hx34.e hE24 (Nat.le_refl _)
    have hz39 := hE38.le
    have hs40 := hx34.size
    refine st_gq 3 21 rfl rfl (by decide) ?_
    refine st_c (t_call [.agg #[.string pr, .int .i64 ar, .slice a L.length ca], .slice ((some ⟨w21.heap.size, 0, none⟩)) 1 1] T.cf35 rfl rfl) (columns35 pr ar _ ([c]) _ _ (hB36.src1 (k := 1) (m := 1) rfl (by omega))) ?_
    rintro _ w41 ⟨rfl, hx42⟩
    refine ⟨_, rfl, ?_⟩
    have hB43 := hB37.ext hx42
    have hB44 := hB36.ext hx42
    have hE45 : Below w0.heap.size w0 w41 := hx42.e hE38 (Nat.le_refl _)
    have hz46 := hE45.le
    have hs47 := hx42.size
    refine st_gq 3 21 rfl rfl (by decide) ?_
    refine st_q (v := .bool (decide (¬ (ColsOK ar [c])))) (x_notP rfl) ?_
    refine st_q (v := .bool (decide (¬ (ColsOK ar [c])))) (x_pickF rfl rfl) ?_
    refine st_nil ?_
    refine kn18 _ _ ?_
    refine cnd (p := ¬ (ColsOK ar [c])) rfl (fun h48 => ?_) (fun h48 => ?_)
    ·
      refine seqK fun Q49 kn50 kr51 ke52 => ?_
      refine region ?_
      refine st_q (v := .slice none 0 0) (x_assign rfl) ?_
      refine st_q (v := .int .i64 ((2 : Nat) : Int)) (x_assign rfl) ?_
      refine st_nil ?_
      refine kn50 _ _ ?_
      refine ret ?_
      refine kr15 _ _ ?_
      refine leave2 (P := Tryd.prog) (fn := Tryd.f20) (t := 4) (u := 5) (v := .slice none 0 0) (v' := .int .i64 ((2 : Nat) : Int)) rfl rfl rfl ?_
      exact ⟨rfl, hE45⟩
    ·
      exact absurd h48 (not_not_intro fun hc => hbad ⟨Decidable.of_not_not (by assumption), hc⟩)

set_option maxHeartbeats 4000000 in
theorem refrank20 (pr : ByteArray) (ar : Int) (L : List Row) (va : Value) (c : Nat) (w0 : World) (ha : Src w0.heap va L.length 1 (flat enR L)) (hL : RowsP w0.heap L) (hG : RightR ar (tp L) ∧ ColsOK ar [((c : Nat) : Int)]) (hn : L.length ≤ 1466015503701) (hsz : SizeL L) : Calls Tryd.prog 20 #[.agg #[.string pr, .int .i64 ar, va], .int .i64 ((c : Nat) : Int)] w0 fun e w' => ∃ v, e = .returned (.tuple #[v, .int .i64 0]) ∧ Ext w0 w' ∧ Own w'.heap w0.heap.size 9 1 v (rankL ((tp L).map (fun t => el t c))).length (flat enS (rankL ((tp L).map (fun t => el t c)))) := by
  have hE0 : Below w0.heap.size w0 w0 := Below.refl _ _
  have hz0 := hE0.le
  obtain ⟨a, ca, rfl, hca, hca1⟩ := ha.form
  have hC2 : c < 16 ∧ ((c : Nat) : Int) < ar := by
    have hC := (hG.2 0 (by simp)).1
    have h1 : el [((c : Nat) : Int)] 0 = ((c : Nat) : Int) := rfl
    rw [h1] at hC
    unfold badC at hC
    have h2 := of_decide_eq_false hC
    have := hG.1.2.2
    omega
  refine enter Tryd.func20 rfl 116 Tryd.ntmps20 rfl ?_
  refine seqK fun Q1 kn2 kr3 ke4 => ?_
  refine region ?_
  refine st_e (e_box (v := .agg #[.string pr, .int .i64 ar, .slice a L.length ca]) rfl ?_)
  intro w5 hA6
  have hx7 := hA6.ext
  have hs8 := hA6.size
  have hB9 : Blk w5.heap w0.heap.size [.string pr, .int .i64 ar, .slice a L.length ca] 29 := hA6.new
  have hE10 : Below w0.heap.size w0 w5 := hx7.e hE0 (Nat.le_refl _)
  have hz11 := hE10.le
  have hs12 := hx7.size
  refine st_q (v := .slice none 0 0) (x_assign rfl) ?_
  refine st_q (v := .int .i64 ((0 : Nat) : Int)) (x_assign rfl) ?_
  refine st_nil ?_
  refine kn2 _ _ ?_
  refine seqK fun Q13 kn14 kr15 ke16 => ?_
  refine seqK fun Q17 kn18 kr19 ke20 => ?_
  refine region ?_
  refine st_q (v := .agg #[.string pr, .int .i64 ar, .slice a L.length ca]) (x_loadA [.string pr, .int .i64 ar, .slice a L.length ca] T.ag29 rfl (hB9.cells 0 [.string pr, .int .i64 ar, .slice a L.length ca] (cells_at rfl))) ?_
  refine st_c (t_call [.agg #[.string pr, .int .i64 ar, .slice a L.length ca]] T.cf34 rfl rfl) (right34 pr ar L _ _ (ha.below hE10) (RowsP.below hL hE10)) ?_
  rintro _ w21 ⟨rfl, hx22⟩
  refine ⟨_, rfl, ?_⟩
  have hB23 := hB9.ext hx22
  have hE24 : Below w0.heap.size w0 w21 := hx22.e hE10 (Nat.le_refl _)
  have hz25 := hE24.le
  have hs26 := hx22.size
  refine st_q (v := .bool (decide (¬ (RightR ar (tp L))))) (x_notP rfl) ?_
  refine st_if (p := ¬ (RightR ar (tp L))) (x_move rfl) (fun h27 => ?_) (fun h27 => ?_)
  ·
    exact absurd h27 (not_not_intro hG.1)
  ·
    refine st_gq 3 21 rfl rfl (by decide) ?_
    refine st_q (v := .agg #[.string pr, .int .i64 ar, .slice a L.length ca]) (x_loadA [.string pr, .int .i64 ar, .slice a L.length ca] T.ag29 rfl (hB23.cells 0 [.string pr, .int .i64 ar, .slice a L.length ca] (cells_at rfl))) ?_
    refine st_gq 3 21 rfl rfl (by decide) ?_
    refine st_q (v := .int .i64 ((c : Nat) : Int)) (x_move rfl) ?_
    refine st_gq 3 21 rfl rfl (by decide) ?_
    refine st_e (e_buildSlice (cs := [.int .i64 ((c : Nat) : Int)]) (e := 3) (fun _ => by kernel_rfl) ?_)
    intro w28 hA29
    have hx30 := hA29.ext
    have hs31 := hA29.size
    have hB32 : Blk w28.heap w21.heap.size [.int .i64 ((c : Nat) : Int)] 3 := hA29.new
    have hB33 := hB23.ext hx30
    have hE34 : Below w0.heap.size w0 w28 := hx30.e hE24 (Nat.le_refl _)
    have hz35 := hE34.le
    have hs36 := hx30.size
    refine st_gq 3 21 rfl rfl (by decide) ?_
    refine st_c (t_call [.agg #[.string pr, .int .i64 ar, .slice a L.length ca], .slice ((some ⟨w21.heap.size, 0, none⟩)) 1 1] T.cf35 rfl rfl) (columns35 pr ar _ ([((c : Nat) : Int)]) _ _ (hB32.src1 (k := 1) (m := 1) rfl (by omega))) ?_
    rintro _ w37 ⟨rfl, hx38⟩
    refine ⟨_, rfl, ?_⟩
    have hB39 := hB33.ext hx38
    have hB40 := hB32.ext hx38
    have hE41 : Below w0.heap.size w0 w37 := hx38.e hE34 (Nat.le_refl _)
    have hz42 := hE41.le
    have hs43 := hx38.size
    refine st_gq 3 21 rfl rfl (by decide) ?_
    refine st_q (v := .bool (decide (¬ (ColsOK ar [((c : Nat) : Int)])))) (x_notP rfl) ?_
    refine st_q (v := .bool (decide (¬ (ColsOK ar [((c : Nat) : Int)])))) (x_pickF rfl rfl) ?_
    refine st_nil ?_
    refine kn18 _ _ ?_
    refine cnd (p := ¬ (ColsOK ar [((c : Nat) : Int)])) rfl (fun h44 => ?_) (fun h44 => ?_)
    ·
      exact absurd h44 (not_not_intro hG.2)
    ·
      refine skip ?_
      refine kn14 _ _ ?_
      refine seqK fun Q45 kn46 kr47 ke48 => ?_
      refine region ?_
      refine st_q (v := .slice none 0 0) (x_assign rfl) ?_
      refine st_nil ?_
      refine kn46 _ _ ?_
      refine seqK fun Q49 kn50 kr51 ke52 => ?_
      refine seqK fun Q53 kn54 kr55 ke56 => ?_
      refine region ?_
      refine st_q (v := .int .i64 ((0 : Nat) : Int)) (x_assign rfl) ?_
      refine st_nil ?_
      refine kn54 _ _ ?_
      refine blockK fun Q57 kn58 kr59 kx60 kb61 => ?_
      refine loopK (α := Nat × (List Row) × Value) (fun x => [(1, .int .i64 ((c : Nat) : Int)), (2, .pointer (some ⟨w0.heap.size, 0, none⟩)), (6, x.2.2), (7, .int .i64 ((x.1 : Nat) : Int))]) (fun x w62 => Below w0.heap.size w0 w62 ∧ x.1 ≤ L.length ∧ Blk w62.heap w0.heap.size [.string pr, .int .i64 ar, .slice a L.length ca] 29 ∧ tp x.2.1 = ((tp (L.take x.1)).map fun t => [el t c]) ∧ Own w62.heap w0.heap.size 42 1 x.2.2 x.1 (flat enR x.2.1) ∧ RowsW w62.heap w0.heap.size x.2.1) (fun x => L.length - x.1) (0, [], .slice none 0 0) ⟨rfl, rfl, rfl, rfl, trivial⟩ ?_ ?_
      ·
        refine ⟨hE41, ?_⟩
        try dsimp only
        exact ⟨Nat.zero_le _, hB39, rfl, Own.nil _ _ _ _, RowsW.nil _ _⟩
      ·
        rintro τ63 ⟨i, K, vl⟩ w64 ⟨hx65, ⟨hi, hBx, hKt, hO, hW⟩⟩
        try dsimp only at hi hBx hKt hO hW
        have hz66 := hx65.le
        intro Q67 kn68 kr69 ke70
        obtain ⟨aV, cV, rfl, hcV, hcV1⟩ := hO.src.form
        refine seqK fun Q71 kn72 kr73 ke74 => ?_
        refine seqK fun Q75 kn76 kr77 ke78 => ?_
        refine region ?_
        refine st_q (v := .int .i64 ((i : Nat) : Int)) (x_move rfl) ?_
        refine st_q (v := .pointer (some ⟨w0.heap.size, 2, none⟩)) (x_field (o := 0) T.fa29_2 rfl) ?_
        refine st_q (v := .slice a L.length ca) (x_load1 T.na27 rfl (hBx.one 2 rfl)) ?_
        refine st_q (v := .int .i64 ((L.length : Nat) : Int)) (x_lenSl rfl Tryd.underlying27 rfl) ?_
        refine st_q (v := .bool (decide (i < L.length))) (x_lssN rfl rfl) ?_
        refine st_nil ?_
        refine kn76 _ _ ?_
        refine cnd (p := i < L.length) rfl (fun h79 => ?_) (fun h79 => ?_)
        ·
          refine skip ?_
          refine kn72 _ _ ?_
          refine seqK fun Q80 kn81 kr82 ke83 => ?_
          refine blockK fun Q84 kn85 kr86 kx87 kb88 => ?_
          refine region ?_
          refine st_q (v := .slice aV i cV) (x_move rfl) ?_
          refine st_q (v := .pointer (some ⟨w0.heap.size, 2, none⟩)) (x_field (o := 0) T.fa29_2 rfl) ?_
          refine st_q (v := .slice a L.length ca) (x_load1 T.na27 rfl (hBx.one 2 rfl)) ?_
          refine st_q (v := .int .i64 ((i : Nat) : Int)) (x_move rfl) ?_
          obtain ⟨b89, o90, ha91, hc92⟩ := ha.at (by omega)
          refine st_q (v := .pointer (some ⟨b89, o90 + i * 1, none⟩)) (x_index' T.sl27 rfl ha91 rfl (by omega)) ?_
          have hs93 := hL _ (el_mem' (xs := L) (i := i) (by omega))
          have htl : ((el L i).2.length : Int) = ar := hG.1.1 _ (show (el L i).2 ∈ tp L from List.mem_map_of_mem (el_mem' (by omega)))
          refine st_q (v := .slice ((el L i).1.1) ((el L i).2.length) ((el L i).1.2)) (x_load1 T.na42 rfl ((hc92.below hx65).elem enR_len (i := i) (by omega))) ?_
          refine st_q (v := .int .i64 ((c : Nat) : Int)) (x_move rfl) ?_
          obtain ⟨b94, o95, ha96, hc97⟩ := hs93.at (by omega)
          refine st_q (v := .pointer (some ⟨b94, o95 + c * 1, none⟩)) (x_index' T.sl42 rfl ha96 rfl (by omega)) ?_
          refine st_q (v := .string (el (el L i).2 c)) (x_load1 T.na9 rfl ((hc97.below hx65).elem enS_len (i := c) (by omega))) ?_
          refine st_e (e_buildSlice (cs := [.string (el (el L i).2 c)]) (e := 9) (fun _ => by kernel_rfl) ?_)
          intro w98 hA99
          have hx100 := hA99.ext
          have hs101 := hA99.size
          have hB102 : Blk w98.heap w64.heap.size [.string (el (el L i).2 c)] 9 := hA99.new
          have hB103 := hBx.ext hx100
          have hF104 := hO.ext hx100
          have hF105 := hW.ext hx100
          have hE106 : Below w0.heap.size w0 w98 := hx100.e hx65 (Nat.le_refl _)
          have hz107 := hE106.le
          have hs108 := hx100.size
          refine st_e (e_buildSlice (cs := [.slice ((some ⟨w64.heap.size, 0, none⟩)) 1 1]) (e := 42) (fun _ => by kernel_rfl) ?_)
          intro w109 hA110
          have hx111 := hA110.ext
          have hs112 := hA110.size
          have hB113 : Blk w109.heap w98.heap.size [.slice ((some ⟨w64.heap.size, 0, none⟩)) 1 1] 42 := hA110.new
          have hB114 := hB103.ext hx111
          have hB115 := hB102.ext hx111
          have hF116 := hF104.ext hx111
          have hF117 := hF105.ext hx111
          have hE118 : Below w0.heap.size w0 w109 := hx111.e hE106 (Nat.le_refl _)
          have hz119 := hE118.le
          have hs120 := hx111.size
          have hW121 : RowsW w109.heap w0.heap.size (K ++ [(((some ⟨w64.heap.size, 0, none⟩), 1), [el (el L i).2 c])]) := hF117.snoc (hB115.ownN (k := 1) (m := 1) (by omega) rfl (by omega))
          refine st_e (e_appendX T.sl27 rfl rfl hF116 (hB113.src1 (k := 1) (m := 1) rfl (by omega)) (ones (by rfl)) (by omega) (by decide) (by omega) ?_)
          intro v122 w123 hO124 hG125 hN126 hW127
          have hB128 := hB114.gk (hG125) (hF116.rowk) (by decide)
          have hF129 := hW121.gk (hG125) (hF116.rowk) (by decide)
          have hE130 : Below w0.heap.size w0 w123 := grown_below hG125 hE118 (Nat.le_refl _) (fun b hb => (by have := (hF116.lt hb).1; clear hb; omega))
          have hz131 := hE130.le
          have hs132 := hG125.size
          have hO133 := Own.snoc (enc := enR) (u := (((some ⟨w64.heap.size, 0, none⟩), 1), [el (el L i).2 c])) hO124
          obtain ⟨a134, c135, rfl, hm136, hm137⟩ := hO133.src.form
          refine st_q (v := .slice a134 ((i + 1)) c135) (x_assign rfl) ?_
          refine st_nil ?_
          refine kn85 _ _ ?_
          refine kn81 _ _ ?_
          refine region ?_
          refine st_q (v := .int .i64 ((i : Nat) : Int)) (x_move rfl) ?_
          refine st_q (v := .int .i64 (((i + 1) : Nat) : Int)) (x_addN rfl rfl (by omega)) ?_
          refine st_q (v := .int .i64 (((i + 1) : Nat) : Int)) (x_assign rfl) ?_
          refine st_nil ?_
          refine kn68 _ ((i + 1), (K ++ [(((some ⟨w64.heap.size, 0, none⟩), 1), [el (el L i).2 c])]), .slice a134 ((i + 1)) c135) _ ⟨rfl, rfl, rfl, rfl, trivial⟩ ⟨hE130, ?_⟩ ?_
          ·
            try dsimp only
            exact ⟨by omega, hB128, by rw [tp_take_succ (by omega), List.map_append, ← hKt]; simp [tp], hO133, hF129⟩
          ·
            (try dsimp only); omega
        ·
          refine exit ?_
          refine ke74 _ _ _ ?_
          refine ke70 _ _ _ ?_
          refine kb61 _ _ ?_
          refine kn50 _ _ ?_
          refine seqK fun Q138 kn139 kr140 ke141 => ?_
          refine region ?_
          refine st_q (v := .slice aV i cV) (x_move rfl) ?_
          have ei : i = L.length := by omega
          have hKl : K.length = i := by have h := congrArg List.length hKt; rw [tp_len, List.length_map, tp_len, List.length_take] at h; omega
          have hK1 : ∀ x ∈ K, x.2.length ≤ 4398046511104 := fun x hx => by
            have h : x.2 ∈ tp K := List.mem_map_of_mem hx
            rw [hKt] at h; obtain ⟨t, _, e⟩ := List.mem_map.1 h; rw [← e]; simp
          have hKs : Src w64.heap (.slice aV i cV) K.length 1 (flat enR K) := by rw [hKl]; exact hO.src
          refine st_c (t_call [.slice aV i cV] T.cf22 rfl rfl) (refset22 K _ _ hKs hW.rowsP (by omega) hK1) ?_
          rintro _ w142 ⟨vR, R, rfl, hx143, hRt, hO144, hRW⟩
          refine ⟨_, rfl, ?_⟩
          have hB145 := hBx.ext hx143
          have hF146 := hO.ext hx143
          have hF147 := hW.ext hx143
          have hE148 : Below w0.heap.size w0 w142 := hx143.e hx65 (Nat.le_refl _)
          have hz149 := hE148.le
          have hs150 := hx143.size
          rw [hKt, ei, List.take_length] at hRt
          have hRt2 : tp R = setL (((tp L).map (fun t => el t c)).map fun s => [s]) := by rw [hRt, List.map_map]; rfl
          obtain ⟨S, hSl, hSe, hSp, hSm⟩ := single_set hRt2
          have hRn : R.length ≤ L.length := by have h := congrArg List.length hRt; rw [tp_len] at h; have h2 := setL_len ((tp L).map fun t => [el t c]); rw [List.length_map, tp_len] at h2; omega
          have hEB := hE148
          have hzB := hEB.le
          obtain ⟨aR, cR, rfl, hcR, hcR1⟩ := hO144.src.form
          have hRs := hO144.src
          have hRP := hRW.rowsP
          have hSz : ∀ j, j < S.length → (el S j).size ≤ maxLen := fun j hj => by
            obtain ⟨t, ht, e⟩ := List.mem_map.1 ((hSm (el S j)).1 (el_mem' hj)); obtain ⟨y, hy, rfl⟩ := List.mem_map.1 ht
            rw [← e]; exact hsz y hy _ (el_mem' (by have h : ((y.2.length : Nat) : Int) = ar := hG.1.1 _ (show y.2 ∈ tp L from List.mem_map_of_mem hy); omega))
          have hE151 : Below w142.heap.size w142 w142 := Below.refl _ _
          have hz152 := hE151.le
          refine st_q (v := .slice aR R.length cR) (x_assign rfl) ?_
          refine st_nil ?_
          refine kn139 _ _ ?_
          refine seqK fun Q153 kn154 kr155 ke156 => ?_
          refine region ?_
          refine st_q (v := .slice none 0 0) (x_assign rfl) ?_
          refine st_q (v := .slice none 0 0) (x_assign rfl) ?_
          refine st_nil ?_
          refine kn154 _ _ ?_
          refine seqK fun Q157 kn158 kr159 ke160 => ?_
          refine seqK fun Q161 kn162 kr163 ke164 => ?_
          refine region ?_
          refine st_q (v := .int .i64 ((0 : Nat) : Int)) (x_assign rfl) ?_
          refine st_nil ?_
          refine kn162 _ _ ?_
          refine blockK fun Q165 kn166 kr167 kx168 kb169 => ?_
          refine loopK (α := Nat × (List ByteArray) × (List ByteArray) × Value × Value) (fun x => [(6, .slice aR R.length cR), (8, x.2.2.2.1), (9, x.2.2.2.2), (10, .int .i64 ((x.1 : Nat) : Int))]) (fun x w170 => Below w142.heap.size w142 w170 ∧ x.1 ≤ R.length ∧ RankAt S x.2.1 x.2.2.1 x.1 ∧ Own w170.heap w142.heap.size 9 1 x.2.2.2.1 x.2.1.length (flat enS x.2.1) ∧ Own w170.heap w142.heap.size 9 1 x.2.2.2.2 x.2.2.1.length (flat enS x.2.2.1) ∧ (∀ z, x.2.2.2.1.ownBlock = some z → x.2.2.2.2.ownBlock ≠ some z) ∧ x.2.1.length + x.2.2.1.length ≤ x.1) (fun x => R.length - x.1) (0, [], [], .slice none 0 0, .slice none 0 0) ⟨rfl, rfl, rfl, rfl, trivial⟩ ?_ ?_
          ·
            refine ⟨hE151, ?_⟩
            try dsimp only
            exact ⟨Nat.zero_le _, RankAt.zero S, Own.nil _ _ _ _, Own.nil _ _ _ _, fun z h => (by cases h), Nat.le_refl _⟩
          ·
            rintro τ171 ⟨i2, O, Q, vo, vq⟩ w172 ⟨hx173, ⟨hi2, hRA, hO2, hQ2, hap, hOQ⟩⟩
            try dsimp only at hi2 hRA hO2 hQ2 hap hOQ
            have hz174 := hx173.le
            intro Q175 kn176 kr177 ke178
            obtain ⟨aO, cO, rfl, hcO, hcO1⟩ := hO2.src.form
            obtain ⟨aQ, cQ, rfl, hcQ, hcQ1⟩ := hQ2.src.form
            refine seqK fun Q179 kn180 kr181 ke182 => ?_
            refine seqK fun Q183 kn184 kr185 ke186 => ?_
            refine region ?_
            refine st_q (v := .int .i64 ((i2 : Nat) : Int)) (x_move rfl) ?_
            refine st_q (v := .slice aR R.length cR) (x_move rfl) ?_
            refine st_q (v := .int .i64 ((R.length : Nat) : Int)) (x_lenSl rfl Tryd.underlying27 rfl) ?_
            refine st_q (v := .bool (decide (i2 < R.length))) (x_lssN rfl rfl) ?_
            refine st_nil ?_
            refine kn184 _ _ ?_
            refine cnd (p := i2 < R.length) rfl (fun h187 => ?_) (fun h187 => ?_)
            ·
              refine skip ?_
              refine kn180 _ _ ?_
              refine seqK fun Q188 kn189 kr190 ke191 => ?_
              refine blockK fun Q192 kn193 kr194 kx195 kb196 => ?_
              refine seqK fun Q197 kn198 kr199 ke200 => ?_
              refine region ?_
              refine st_q (v := .slice aR R.length cR) (x_move rfl) ?_
              refine st_q (v := .int .i64 ((i2 : Nat) : Int)) (x_move rfl) ?_
              obtain ⟨b201, o202, ha203, hc204⟩ := hRs.at (by omega)
              refine st_q (v := .pointer (some ⟨b201, o202 + i2 * 1, none⟩)) (x_index' T.sl27 rfl ha203 rfl (by omega)) ?_
              have hse := hSe i2 (by omega)
              have hs205 := (hRP _ (el_mem' (xs := R) (i := i2) (by omega)))
              rw [hse] at hs205
              have hs1 : [el S i2].length = 1 := rfl
              refine st_q (v := .slice ((el R i2).1.1) 1 ((el R i2).1.2)) (x_load1 T.na42 rfl (Cells.conv ((hc204.below hx173).elem enR_len (i := i2) (by omega)) (by rw [hse]; rfl))) ?_
              obtain ⟨b206, o207, ha208, hc209⟩ := hs205.at (by omega)
              refine st_q (v := .pointer (some ⟨b206, o207 + 0 * 1, none⟩)) (x_index' T.sl42 rfl ha208 rfl (by omega)) ?_
              refine st_q (v := .string ((el S i2))) (x_load1 T.na9 rfl ((hc209.below hx173).elem enS_len (i := 0) (by omega))) ?_
              refine st_q (v := .string ((el S i2))) (x_assign rfl) ?_
              refine st_nil ?_
              refine kn198 _ _ ?_
              refine seqK fun Q210 kn211 kr212 ke213 => ?_
              refine region ?_
              refine st_q (v := .string ((el S i2))) (x_move rfl) ?_
              refine st_c (t_call [.string ((el S i2))] T.cf10 rfl rfl) (number10g ((el S i2)) _ (hSz i2 (by omega))) ?_
              rintro _ w214 ⟨rfl, hx215⟩
              refine ⟨_, rfl, ?_⟩
              have hF216 := hO2.ext hx215
              have hF217 := hQ2.ext hx215
              have hE218 : Below w142.heap.size w142 w214 := hx215.e hx173 (Nat.le_refl _)
              have hz219 := hE218.le
              have hs220 := hx215.size
              refine st_q (v := .tuple #[.float .f64 (((num ((el S i2))).getD 0)), .bool ((num ((el S i2))).isSome)]) (x_move rfl) ?_
              refine st_q (v := .float .f64 (((num ((el S i2))).getD 0))) (x_extract rfl rfl) ?_
              refine st_q (v := .bool ((num ((el S i2))).isSome)) (x_extract rfl rfl) ?_
              refine st_q (v := .float .f64 (((num ((el S i2))).getD 0))) (x_assign rfl) ?_
              refine st_q (v := .bool ((num ((el S i2))).isSome)) (x_assign rfl) ?_
              refine st_nil ?_
              refine kn211 _ _ ?_
              refine seqK fun Q221 kn222 kr223 ke224 => ?_
              refine seqK fun Q225 kn226 kr227 ke228 => ?_
              refine region ?_
              refine st_q (v := .bool ((num ((el S i2))).isSome)) (x_move rfl) ?_
              refine st_q (v := .bool (decide (¬ ((num ((el S i2))).isSome = true)))) (x_notBB rfl) ?_
              refine st_nil ?_
              refine kn226 _ _ ?_
              refine cnd (p := ¬ ((num ((el S i2))).isSome = true)) rfl (fun h229 => ?_) (fun h229 => ?_)
              ·
                refine seqK fun Q230 kn231 kr232 ke233 => ?_
                refine region ?_
                refine st_q (v := .slice aQ Q.length cQ) (x_move rfl) ?_
                refine st_q (v := .string ((el S i2))) (x_move rfl) ?_
                refine st_e (e_buildSlice (cs := [.string ((el S i2))]) (e := 9) (fun _ => by kernel_rfl) ?_)
                intro w234 hA235
                have hx236 := hA235.ext
                have hs237 := hA235.size
                have hB238 : Blk w234.heap w214.heap.size [.string ((el S i2))] 9 := hA235.new
                have hF239 := hF216.ext hx236
                have hF240 := hF217.ext hx236
                have hE241 : Below w142.heap.size w142 w234 := hx236.e hE218 (Nat.le_refl _)
                have hz242 := hE241.le
                have hs243 := hx236.size
                have hOlt : ∀ z, Value.ownBlock (.slice aO O.length cO) = some z → z < w234.heap.size := fun z e => (hF239.lt e).2
                refine st_e (e_appendX T.sl42 rfl rfl hF240 (hB238.src1 (k := 1) (m := 1) rfl (by omega)) (ones (by rfl)) (by omega) (by decide) (by omega) ?_)
                intro v244 w245 hO246 hG247 hN248 hW249
                have hF250 := hF239.grown hG247 (fun b hb e => hap b hb e)
                have hE251 : Below w142.heap.size w142 w245 := grown_below hG247 hE241 (Nat.le_refl _) (fun b hb => (by have := (hF240.lt hb).1; clear hb; omega))
                have hz252 := hE251.le
                have hs253 := hG247.size
                have hO254 := Own.snoc (enc := enS) (u := (el S i2)) hO246
                obtain ⟨a255, c256, rfl, hm257, hm258⟩ := hO254.src.form
                refine st_q (v := .slice a255 ((Q.length + 1)) c256) (x_assign rfl) ?_
                refine st_nil ?_
                refine kn231 _ _ ?_
                refine exit ?_
                refine ke224 _ _ _ ?_
                refine kb196 _ _ ?_
                refine kn189 _ _ ?_
                refine region ?_
                refine st_q (v := .int .i64 ((i2 : Nat) : Int)) (x_move rfl) ?_
                refine st_q (v := .int .i64 (((i2 + 1) : Nat) : Int)) (x_addN rfl rfl (by omega)) ?_
                refine st_q (v := .int .i64 (((i2 + 1) : Nat) : Int)) (x_assign rfl) ?_
                refine st_nil ?_
                refine kn176 _ ((i2 + 1), O, (Q ++ [(el S i2)]), .slice aO O.length cO, .slice a255 ((Q.length + 1)) c256) _ ⟨rfl, rfl, rfl, rfl, trivial⟩ ⟨hE251, ?_⟩ ?_
                ·
                  try dsimp only
                  refine ⟨by omega, hRA.rest hSp (by omega) (by assumption), hF250, by rw [List.length_append]; exact hO254, ?_, by rw [List.length_append, List.length_singleton]; omega⟩
                  exact fun z h1 h2 => apart_where (A := .slice aQ Q.length cQ) (B := .slice aO O.length cO) (fun z h1 h2 => hap z h2 h1) hW249 (fun z e => by have := hOlt z e; omega) z h2 h1
                ·
                  (try dsimp only); omega
              ·
                refine skip ?_
                refine kn222 _ _ ?_
                refine seqK fun Q259 kn260 kr261 ke262 => ?_
                refine region ?_
                have hsome : (num (el S i2)).isSome = true := Decidable.of_not_not (by assumption)
                refine st_q (v := .slice aO O.length cO) (x_move rfl) ?_
                refine st_q (v := .int .i64 ((O.length : Nat) : Int)) (x_lenSl rfl Tryd.underlying42 rfl) ?_
                refine st_q (v := .int .i64 ((O.length : Nat) : Int)) (x_assign rfl) ?_
                refine st_nil ?_
                refine kn260 _ _ ?_
                refine seqK fun Q263 kn264 kr265 ke266 => ?_
                refine blockK fun Q267 kn268 kr269 kx270 kb271 => ?_
                refine loopK (α := Nat) (fun x => [(6, .slice aR R.length cR), (8, .slice aO O.length cO), (9, .slice aQ Q.length cQ), (10, .int .i64 ((i2 : Nat) : Int)), (11, .string ((el S i2))), (12, .float .f64 (((num ((el S i2))).getD 0))), (14, .int .i64 ((x : Nat) : Int))]) (fun x w272 => Below w142.heap.size w142 w272 ∧ (x ≤ O.length ∧ ∀ j, x ≤ j → j < O.length → rkv (el S i2) < rkv (el O j)) ∧ Own w272.heap w142.heap.size 9 1 (.slice aO O.length cO) O.length (flat enS O) ∧ Own w272.heap w142.heap.size 9 1 (.slice aQ Q.length cQ) Q.length (flat enS Q)) (fun x => x) (O.length) ⟨rfl, rfl, rfl, rfl, rfl, rfl, rfl, trivial⟩ ?_ ?_
                ·
                  refine ⟨hE218, ?_⟩
                  try dsimp only
                  refine ⟨?_, hF216, hF217⟩
                  exact ⟨Nat.le_refl _, fun j h1 h2 => by omega⟩
                ·
                  rintro τ273 k w274 ⟨hx277, ⟨⟨hk, hK⟩, hC275, hC276⟩⟩
                  try dsimp only at hk hK hC275 hC276
                  have hz278 := hx277.le
                  intro Q279 kn280 kr281 ke282
                  refine seqK fun Q283 kn284 kr285 ke286 => ?_
                  refine seqK fun Q287 kn288 kr289 ke290 => ?_
                  refine region ?_
                  refine st_q (v := .int .i64 ((k : Nat) : Int)) (x_move rfl) ?_
                  refine st_q (v := .bool (decide (0 < k))) (x_gtrN rfl rfl) ?_
                  refine st_nil ?_
                  refine kn288 _ _ ?_
                  refine cnd (p := 0 < k) rfl (fun h291 => ?_) (fun h291 => ?_)
                  ·
                    refine skip ?_
                    refine kn284 _ _ ?_
                    refine blockK fun Q292 kn293 kr294 kx295 kb296 => ?_
                    refine seqK fun Q297 kn298 kr299 ke300 => ?_
                    refine region ?_
                    refine st_q (v := .slice aO O.length cO) (x_move rfl) ?_
                    refine st_q (v := .int .i64 ((k : Nat) : Int)) (x_move rfl) ?_
                    refine st_q (v := .int .i64 (((k - 1) : Nat) : Int)) (x_subN rfl rfl (by omega) (by omega)) ?_
                    obtain ⟨b301, o302, ha303, hc304⟩ := hC275.src.at (by omega)
                    refine st_q (v := .pointer (some ⟨b301, o302 + ((k - 1)) * 1, none⟩)) (x_index' T.sl42 rfl ha303 rfl (by omega)) ?_
                    refine st_q (v := .string (el O ((k - 1)))) (x_load1 T.na9 rfl (hc304.elem enS_len (i := (k - 1)) (by omega))) ?_
                    refine st_c (t_call [.string (el O ((k - 1)))] T.cf10 rfl rfl) (number10g (el O ((k - 1))) _ (by obtain ⟨j, hj, e⟩ := List.getElem_of_mem (List.mem_of_mem_take ((hRA.mem _).1 (.inl (el_mem' (xs := O) (i := k - 1) (by omega))))); rw [← e, ← el_eq]; exact hSz j hj)) ?_
                    rintro _ w305 ⟨rfl, hx306⟩
                    refine ⟨_, rfl, ?_⟩
                    have hF307 := hC275.ext hx306
                    have hF308 := hC276.ext hx306
                    have hF309 := hc304.ext hx306
                    have hE310 : Below w142.heap.size w142 w305 := hx306.e hx277 (Nat.le_refl _)
                    have hz311 := hE310.le
                    have hs312 := hx306.size
                    refine st_q (v := .tuple #[.float .f64 (((num (el O ((k - 1)))).getD 0)), .bool ((num (el O ((k - 1)))).isSome)]) (x_move rfl) ?_
                    refine st_q (v := .float .f64 (((num (el O ((k - 1)))).getD 0))) (x_extract rfl rfl) ?_
                    refine st_q (v := .bool ((num (el O ((k - 1)))).isSome)) (x_extract rfl rfl) ?_
                    refine st_q (v := .float .f64 (((num (el O ((k - 1)))).getD 0))) (x_assign rfl) ?_
                    refine st_q (v := .bool ((num (el O ((k - 1)))).isSome)) (x_assign rfl) ?_
                    refine st_nil ?_
                    refine kn298 _ _ ?_
                    refine seqK fun Q313 kn314 kr315 ke316 => ?_
                    refine seqK fun Q317 kn318 kr319 ke320 => ?_
                    refine region ?_
                    refine st_q (v := .float .f64 (((num (el O ((k - 1)))).getD 0))) (x_move rfl) ?_
                    refine st_q (v := .float .f64 (((num ((el S i2))).getD 0))) (x_move rfl) ?_
                    refine st_q (v := .bool (decide (Flt.D.order (((num (el O ((k - 1)))).getD 0)) (((num ((el S i2))).getD 0)) = some .lt ∨ Flt.D.order (((num (el O ((k - 1)))).getD 0)) (((num ((el S i2))).getD 0)) = some .eq))) (x_leqF rfl rfl) ?_
                    refine st_nil ?_
                    refine kn318 _ _ ?_
                    refine cnd (p := Flt.D.order (((num (el O ((k - 1)))).getD 0)) (((num ((el S i2))).getD 0)) = some .lt ∨ Flt.D.order (((num (el O ((k - 1)))).getD 0)) (((num ((el S i2))).getD 0)) = some .eq) rfl (fun h321 => ?_) (fun h321 => ?_)
                    ·
                      refine exit ?_
                      refine ke316 _ _ _ ?_
                      refine kx295 _ _ _ rfl ?_
                      refine ke282 _ _ _ ?_
                      refine kb271 _ _ ?_
                      refine kn264 _ _ ?_
                      refine seqK fun Q322 kn323 kr324 ke325 => ?_
                      refine region ?_
                      have hlast : 0 < k → rkv (el O (k - 1)) ≤ rkv (el S i2) := fun h0 => by first | exact (leq_kv (hRA.os _ (el_mem' (by omega))) hsome).1 (by assumption) | omega
                      refine st_q (v := .slice aO O.length cO) (x_move rfl) ?_
                      refine st_e (e_buildSlice (cs := [.string ((ByteArray.mk #[]))]) (e := 9) (fun _ => by kernel_rfl) ?_)
                      intro w326 hA327
                      have hx328 := hA327.ext
                      have hs329 := hA327.size
                      have hB330 : Blk w326.heap w305.heap.size [.string ((ByteArray.mk #[]))] 9 := hA327.new
                      have hF331 := hF307.ext hx328
                      have hF332 := hF308.ext hx328
                      have hF333 := hF309.ext hx328
                      have hE334 : Below w142.heap.size w142 w326 := hx328.e hE310 (Nat.le_refl _)
                      have hz335 := hE334.le
                      have hs336 := hx328.size
                      have hQlt : ∀ z, Value.ownBlock (.slice aQ Q.length cQ) = some z → z < w326.heap.size := fun z e => (hF332.lt e).2
                      refine st_e (e_appendX T.sl42 rfl rfl hF331 (hB330.src1 (k := 1) (m := 1) rfl (by omega)) (ones (by rfl)) (by omega) (by decide) (by omega) ?_)
                      intro v337 w338 hO339 hG340 hN341 hW342
                      have hF343 := hF332.grown hG340 (fun b hb e => hap b e hb)
                      have hE345 : Below w142.heap.size w142 w338 := grown_below hG340 hE334 (Nat.le_refl _) (fun b hb => (by have := (hF331.lt hb).1; clear hb; omega))
                      have hz346 := hE345.le
                      have hs347 := hG340.size
                      have hO348 := Own.snoc (enc := enS) (u := (ByteArray.mk #[])) hO339
                      obtain ⟨a349, c350, rfl, hm351, hm352⟩ := hO348.src.form
                      refine st_q (v := .slice a349 ((O.length + 1)) c350) (x_assign rfl) ?_
                      refine st_nil ?_
                      refine kn323 _ _ ?_
                      refine seqK fun Q353 kn354 kr355 ke356 => ?_
                      refine seqK fun Q357 kn358 kr359 ke360 => ?_
                      refine region ?_
                      have hap3 : ∀ z, Value.ownBlock (.slice a349 ((O.length + 1)) c350) = some z → Value.ownBlock (.slice aQ Q.length cQ) ≠ some z := apart_where (A := .slice aO O.length cO) hap hW342 (fun z e => by have := hQlt z e; omega)
                      refine st_q (v := .slice a349 ((O.length + 1)) c350) (x_move rfl) ?_
                      refine st_q (v := .int .i64 (((O.length + 1) : Nat) : Int)) (x_lenSl rfl Tryd.underlying42 rfl) ?_
                      refine st_q (v := .int .i64 ((((O.length + 1) - 1) : Nat) : Int)) (x_subN rfl rfl (by omega) (by omega)) ?_
                      refine st_q (v := .int .i64 ((((O.length + 1) - 1) : Nat) : Int)) (x_assign rfl) ?_
                      refine st_nil ?_
                      refine kn358 _ _ ?_
                      refine blockK fun Q361 kn362 kr363 kx364 kb365 => ?_
                      refine loopK (α := Nat × (List ByteArray)) (fun x => [(6, .slice aR R.length cR), (8, .slice a349 ((O.length + 1)) c350), (9, .slice aQ Q.length cQ), (10, .int .i64 ((i2 : Nat) : Int)), (11, .string ((el S i2))), (14, .int .i64 ((k : Nat) : Int)), (17, .int .i64 ((x.1 : Nat) : Int))]) (fun x w366 => Below w142.heap.size w142 w366 ∧ (k ≤ x.1 ∧ x.1 ≤ O.length ∧ Own w366.heap w142.heap.size 9 1 (.slice a349 (O.length + 1) c350) (O.length + 1) (flat enS x.2) ∧ x.2.length = O.length + 1 ∧ (∀ j, j < x.1 → el x.2 j = el O j) ∧ ∀ j, x.1 ≤ j → j < O.length → el x.2 (j + 1) = el O j) ∧ Own w366.heap w142.heap.size 9 1 (.slice aQ Q.length cQ) Q.length (flat enS Q)) (fun x => x.1) (O.length, (O ++ [ByteArray.mk #[]])) ⟨rfl, rfl, rfl, rfl, rfl, rfl, rfl, trivial⟩ ?_ ?_
                      ·
                        refine ⟨hE345, ?_⟩
                        try dsimp only
                        refine ⟨?_, hF343⟩
                        exact ⟨by omega, Nat.le_refl _, hO348, by simp, fun j h => el_append_left h, fun j h1 h2 => by omega⟩
                      ·
                        rintro τ367 ⟨m, F⟩ w368 ⟨hx370, ⟨⟨hkm, hm, hOF, hFl, hF1, hF2⟩, hC369⟩⟩
                        try dsimp only at hkm hm hOF hFl hF1 hF2 hC369
                        have hz371 := hx370.le
                        intro Q372 kn373 kr374 ke375
                        obtain ⟨bN, cN1, eN, hcN1, hOB⟩ := hOF.ob (fun e => by injection e with _ e2 _; omega)
                        injection eN with eN1 eN2 eN3
                        have hl376 := hOB.lo
                        have hl377 := hOB.lt
                        refine seqK fun Q378 kn379 kr380 ke381 => ?_
                        refine seqK fun Q382 kn383 kr384 ke385 => ?_
                        refine region ?_
                        refine st_q (v := .int .i64 ((m : Nat) : Int)) (x_move rfl) ?_
                        refine st_q (v := .int .i64 ((k : Nat) : Int)) (x_move rfl) ?_
                        refine st_q (v := .bool (decide (k < m))) (x_gtrN rfl rfl) ?_
                        refine st_nil ?_
                        refine kn383 _ _ ?_
                        refine cnd (p := k < m) rfl (fun h386 => ?_) (fun h386 => ?_)
                        ·
                          refine skip ?_
                          refine kn379 _ _ ?_
                          refine seqK fun Q387 kn388 kr389 ke390 => ?_
                          refine blockK fun Q391 kn392 kr393 kx394 kb395 => ?_
                          refine region ?_
                          refine st_q (v := .slice a349 ((O.length + 1)) c350) (x_move rfl) ?_
                          refine st_q (v := .int .i64 ((m : Nat) : Int)) (x_move rfl) ?_
                          refine st_q (v := .slice a349 ((O.length + 1)) c350) (x_move rfl) ?_
                          refine st_q (v := .int .i64 ((m : Nat) : Int)) (x_move rfl) ?_
                          refine st_q (v := .int .i64 (((m - 1) : Nat) : Int)) (x_subN rfl rfl (by omega) (by omega)) ?_
                          refine st_q (v := .pointer (some ⟨bN, 0 + ((m - 1)) * 1, none⟩)) (x_index' T.sl42 rfl eN1 rfl (by omega)) ?_
                          refine st_q (v := .string (el F ((m - 1)))) (x_load1 T.na9 rfl (hOB.cells.elem enS_len (i := (m - 1)) (by omega))) ?_
                          refine st_q (v := .pointer (some ⟨bN, 0 + m * 1, none⟩)) (x_index' T.sl42 rfl eN1 rfl (by omega)) ?_
                          refine st_s (e_stO (v := .string (el F ((m - 1)))) (u := el F ((m - 1))) enS_len T.sz9 rfl rfl rfl hOB (by first | omega | (rw [List.length_set]; omega)) (by rfl) ?_)
                          intro w396 _ hP397 hB398
                          have hs399 := hP397.size
                          have hF400 := hC369.pt hP397 (by exact fun e => hap3 bN (by rw [eN1]; rfl) e)
                          have hE401 : Below w142.heap.size w142 w396 := hP397.below hx370 (by omega)
                          have hz402 := hE401.le
                          refine st_nil ?_
                          refine kn392 _ _ ?_
                          refine kn388 _ _ ?_
                          refine region ?_
                          refine st_q (v := .int .i64 ((m : Nat) : Int)) (x_move rfl) ?_
                          refine st_q (v := .int .i64 (((m - 1) : Nat) : Int)) (x_subN rfl rfl (by omega) (by omega)) ?_
                          refine st_q (v := .int .i64 (((m - 1) : Nat) : Int)) (x_assign rfl) ?_
                          refine st_nil ?_
                          refine kn373 _ ((m - 1), (F.set m (el F ((m - 1))))) _ ⟨rfl, rfl, rfl, rfl, rfl, rfl, rfl, trivial⟩ ⟨hE401, ?_⟩ ?_
                          ·
                            try dsimp only
                            refine ⟨?_, hF400⟩
                            exact ⟨by omega, by omega, (by rw [eN1, eN3]; exact hB398.own (by omega) (by rw [flat_length enS_len]; simp only [List.length_set]; omega)), by rw [List.length_set]; exact hFl, fun j h => by rw [el_set_off (by omega)]; exact hF1 j (by omega), fun j h1 h2 => by
                              by_cases he : j = m - 1
                              · subst he; rw [show m - 1 + 1 = m by omega, el_set_here (by omega)]; exact hF1 (m - 1) (by omega)
                              · rw [el_set_off (by omega)]; exact hF2 j (by omega) h2⟩
                          ·
                            (try dsimp only); omega
                        ·
                          refine exit ?_
                          refine ke381 _ _ _ ?_
                          refine ke375 _ _ _ ?_
                          refine kb365 _ _ ?_
                          refine kn354 _ _ ?_
                          refine region ?_
                          refine st_q (v := .slice a349 ((O.length + 1)) c350) (x_move rfl) ?_
                          refine st_q (v := .int .i64 ((k : Nat) : Int)) (x_move rfl) ?_
                          refine st_q (v := .string ((el S i2))) (x_move rfl) ?_
                          refine st_q (v := .pointer (some ⟨bN, 0 + k * 1, none⟩)) (x_index' T.sl42 rfl eN1 rfl (by omega)) ?_
                          refine st_s (e_stO (v := .string ((el S i2))) (u := (el S i2)) enS_len T.sz9 rfl rfl rfl hOB (by first | omega | (rw [List.length_set]; omega)) (by rfl) ?_)
                          intro w403 _ hP404 hB405
                          have hs406 := hP404.size
                          have hF407 := hC369.pt hP404 (by exact fun e => hap3 bN (by rw [eN1]; rfl) e)
                          have hE408 : Below w142.heap.size w142 w403 := hP404.below hx370 (by omega)
                          have hz409 := hE408.le
                          refine st_nil ?_
                          refine kn193 _ _ ?_
                          refine kn189 _ _ ?_
                          refine region ?_
                          refine st_q (v := .int .i64 ((i2 : Nat) : Int)) (x_move rfl) ?_
                          refine st_q (v := .int .i64 (((i2 + 1) : Nat) : Int)) (x_addN rfl rfl (by omega)) ?_
                          refine st_q (v := .int .i64 (((i2 + 1) : Nat) : Int)) (x_assign rfl) ?_
                          refine st_nil ?_
                          refine kn176 _ ((i2 + 1), (insAt O k (el S i2)), Q, .slice a349 ((O.length + 1)) c350, .slice aQ Q.length cQ) _ ⟨rfl, rfl, rfl, rfl, trivial⟩ ⟨hE408, ?_⟩ ?_
                          ·
                            try dsimp only
                            have hins : (F.set k ((el S i2))) = insAt O k (el S i2) := insAt_el (by omega) (by rw [List.length_set]; exact hFl) (fun j h => by rw [el_set_off (by omega)]; exact hF1 j (by omega)) (el_set_here (by omega)) (fun j h1 h2 => by rw [el_set_off (by omega)]; exact hF2 j (by omega) h2)
                            refine ⟨by omega, hRA.put hSp (by omega) hsome (by omega) hlast hK, ?_, hF407, ?_, by rw [insAt_len _ _ _ (by omega)]; omega⟩
                            · rw [insAt_len _ _ _ (by omega), ← hins]; exact (by rw [eN1, eN3]; exact hB405.own (by omega) (by rw [flat_length enS_len]; simp only [List.length_set]; omega))
                            · exact hap3
                          ·
                            (try dsimp only); omega
                    ·
                      refine skip ?_
                      refine kn314 _ _ ?_
                      refine region ?_
                      refine st_q (v := .int .i64 ((k : Nat) : Int)) (x_move rfl) ?_
                      refine st_q (v := .int .i64 (((k - 1) : Nat) : Int)) (x_subN rfl rfl (by omega) (by omega)) ?_
                      refine st_q (v := .int .i64 (((k - 1) : Nat) : Int)) (x_assign rfl) ?_
                      refine st_nil ?_
                      refine kn293 _ _ ?_
                      refine kn280 _ ((k - 1)) _ ⟨rfl, rfl, rfl, rfl, rfl, rfl, rfl, trivial⟩ ⟨hE310, ?_⟩ ?_
                      ·
                        try dsimp only
                        refine ⟨?_, hF307, hF308⟩
                        exact ⟨by omega, fun j h1 h2 => by
                          by_cases he : j = k - 1
                          · subst he; have h := mt (leq_kv (hRA.os _ (el_mem' (by omega))) hsome).2 (by assumption); omega
                          · exact hK j (by omega) h2⟩
                      ·
                        (try dsimp only); omega
                  ·
                    refine exit ?_
                    refine ke286 _ _ _ ?_
                    refine ke282 _ _ _ ?_
                    refine kb271 _ _ ?_
                    refine kn264 _ _ ?_
                    refine seqK fun Q410 kn411 kr412 ke413 => ?_
                    refine region ?_
                    have hlast : 0 < k → rkv (el O (k - 1)) ≤ rkv (el S i2) := fun h0 => by first | exact (leq_kv (hRA.os _ (el_mem' (by omega))) hsome).1 (by assumption) | omega
                    refine st_q (v := .slice aO O.length cO) (x_move rfl) ?_
                    refine st_e (e_buildSlice (cs := [.string ((ByteArray.mk #[]))]) (e := 9) (fun _ => by kernel_rfl) ?_)
                    intro w414 hA415
                    have hx416 := hA415.ext
                    have hs417 := hA415.size
                    have hB418 : Blk w414.heap w274.heap.size [.string ((ByteArray.mk #[]))] 9 := hA415.new
                    have hF419 := hC275.ext hx416
                    have hF420 := hC276.ext hx416
                    have hE421 : Below w142.heap.size w142 w414 := hx416.e hx277 (Nat.le_refl _)
                    have hz422 := hE421.le
                    have hs423 := hx416.size
                    have hQlt : ∀ z, Value.ownBlock (.slice aQ Q.length cQ) = some z → z < w414.heap.size := fun z e => (hF420.lt e).2
                    refine st_e (e_appendX T.sl42 rfl rfl hF419 (hB418.src1 (k := 1) (m := 1) rfl (by omega)) (ones (by rfl)) (by omega) (by decide) (by omega) ?_)
                    intro v424 w425 hO426 hG427 hN428 hW429
                    have hF430 := hF420.grown hG427 (fun b hb e => hap b e hb)
                    have hE431 : Below w142.heap.size w142 w425 := grown_below hG427 hE421 (Nat.le_refl _) (fun b hb => (by have := (hF419.lt hb).1; clear hb; omega))
                    have hz432 := hE431.le
                    have hs433 := hG427.size
                    have hO434 := Own.snoc (enc := enS) (u := (ByteArray.mk #[])) hO426
                    obtain ⟨a435, c436, rfl, hm437, hm438⟩ := hO434.src.form
                    refine st_q (v := .slice a435 ((O.length + 1)) c436) (x_assign rfl) ?_
                    refine st_nil ?_
                    refine kn411 _ _ ?_
                    refine seqK fun Q439 kn440 kr441 ke442 => ?_
                    refine seqK fun Q443 kn444 kr445 ke446 => ?_
                    refine region ?_
                    have hap3 : ∀ z, Value.ownBlock (.slice a435 ((O.length + 1)) c436) = some z → Value.ownBlock (.slice aQ Q.length cQ) ≠ some z := apart_where (A := .slice aO O.length cO) hap hW429 (fun z e => by have := hQlt z e; omega)
                    refine st_q (v := .slice a435 ((O.length + 1)) c436) (x_move rfl) ?_
                    refine st_q (v := .int .i64 (((O.length + 1) : Nat) : Int)) (x_lenSl rfl Tryd.underlying42 rfl) ?_
                    refine st_q (v := .int .i64 ((((O.length + 1) - 1) : Nat) : Int)) (x_subN rfl rfl (by omega) (by omega)) ?_
                    refine st_q (v := .int .i64 ((((O.length + 1) - 1) : Nat) : Int)) (x_assign rfl) ?_
                    refine st_nil ?_
                    refine kn444 _ _ ?_
                    refine blockK fun Q447 kn448 kr449 kx450 kb451 => ?_
                    refine loopK (α := Nat × (List ByteArray)) (fun x => [(6, .slice aR R.length cR), (8, .slice a435 ((O.length + 1)) c436), (9, .slice aQ Q.length cQ), (10, .int .i64 ((i2 : Nat) : Int)), (11, .string ((el S i2))), (14, .int .i64 ((k : Nat) : Int)), (17, .int .i64 ((x.1 : Nat) : Int))]) (fun x w452 => Below w142.heap.size w142 w452 ∧ (k ≤ x.1 ∧ x.1 ≤ O.length ∧ Own w452.heap w142.heap.size 9 1 (.slice a435 (O.length + 1) c436) (O.length + 1) (flat enS x.2) ∧ x.2.length = O.length + 1 ∧ (∀ j, j < x.1 → el x.2 j = el O j) ∧ ∀ j, x.1 ≤ j → j < O.length → el x.2 (j + 1) = el O j) ∧ Own w452.heap w142.heap.size 9 1 (.slice aQ Q.length cQ) Q.length (flat enS Q)) (fun x => x.1) (O.length, (O ++ [ByteArray.mk #[]])) ⟨rfl, rfl, rfl, rfl, rfl, rfl, rfl, trivial⟩ ?_ ?_
                    ·
                      refine ⟨hE431, ?_⟩
                      try dsimp only
                      refine ⟨?_, hF430⟩
                      exact ⟨by omega, Nat.le_refl _, hO434, by simp, fun j h => el_append_left h, fun j h1 h2 => by omega⟩
                    ·
                      rintro τ453 ⟨m, F⟩ w454 ⟨hx456, ⟨⟨hkm, hm, hOF, hFl, hF1, hF2⟩, hC455⟩⟩
                      try dsimp only at hkm hm hOF hFl hF1 hF2 hC455
                      have hz457 := hx456.le
                      intro Q458 kn459 kr460 ke461
                      obtain ⟨bN, cN1, eN, hcN1, hOB⟩ := hOF.ob (fun e => by injection e with _ e2 _; omega)
                      injection eN with eN1 eN2 eN3
                      have hl462 := hOB.lo
                      have hl463 := hOB.lt
                      refine seqK fun Q464 kn465 kr466 ke467 => ?_
                      refine seqK fun Q468 kn469 kr470 ke471 => ?_
                      refine region ?_
                      refine st_q (v := .int .i64 ((m : Nat) : Int)) (x_move rfl) ?_
                      refine st_q (v := .int .i64 ((k : Nat) : Int)) (x_move rfl) ?_
                      refine st_q (v := .bool (decide (k < m))) (x_gtrN rfl rfl) ?_
                      refine st_nil ?_
                      refine kn469 _ _ ?_
                      refine cnd (p := k < m) rfl (fun h472 => ?_) (fun h472 => ?_)
                      ·
                        refine skip ?_
                        refine kn465 _ _ ?_
                        refine seqK fun Q473 kn474 kr475 ke476 => ?_
                        refine blockK fun Q477 kn478 kr479 kx480 kb481 => ?_
                        refine region ?_
                        refine st_q (v := .slice a435 ((O.length + 1)) c436) (x_move rfl) ?_
                        refine st_q (v := .int .i64 ((m : Nat) : Int)) (x_move rfl) ?_
                        refine st_q (v := .slice a435 ((O.length + 1)) c436) (x_move rfl) ?_
                        refine st_q (v := .int .i64 ((m : Nat) : Int)) (x_move rfl) ?_
                        refine st_q (v := .int .i64 (((m - 1) : Nat) : Int)) (x_subN rfl rfl (by omega) (by omega)) ?_
                        refine st_q (v := .pointer (some ⟨bN, 0 + ((m - 1)) * 1, none⟩)) (x_index' T.sl42 rfl eN1 rfl (by omega)) ?_
                        refine st_q (v := .string (el F ((m - 1)))) (x_load1 T.na9 rfl (hOB.cells.elem enS_len (i := (m - 1)) (by omega))) ?_
                        refine st_q (v := .pointer (some ⟨bN, 0 + m * 1, none⟩)) (x_index' T.sl42 rfl eN1 rfl (by omega)) ?_
                        refine st_s (e_stO (v := .string (el F ((m - 1)))) (u := el F ((m - 1))) enS_len T.sz9 rfl rfl rfl hOB (by first | omega | (rw [List.length_set]; omega)) (by rfl) ?_)
                        intro w482 _ hP483 hB484
                        have hs485 := hP483.size
                        have hF486 := hC455.pt hP483 (by exact fun e => hap3 bN (by rw [eN1]; rfl) e)
                        have hE487 : Below w142.heap.size w142 w482 := hP483.below hx456 (by omega)
                        have hz488 := hE487.le
                        refine st_nil ?_
                        refine kn478 _ _ ?_
                        refine kn474 _ _ ?_
                        refine region ?_
                        refine st_q (v := .int .i64 ((m : Nat) : Int)) (x_move rfl) ?_
                        refine st_q (v := .int .i64 (((m - 1) : Nat) : Int)) (x_subN rfl rfl (by omega) (by omega)) ?_
                        refine st_q (v := .int .i64 (((m - 1) : Nat) : Int)) (x_assign rfl) ?_
                        refine st_nil ?_
                        refine kn459 _ ((m - 1), (F.set m (el F ((m - 1))))) _ ⟨rfl, rfl, rfl, rfl, rfl, rfl, rfl, trivial⟩ ⟨hE487, ?_⟩ ?_
                        ·
                          try dsimp only
                          refine ⟨?_, hF486⟩
                          exact ⟨by omega, by omega, (by rw [eN1, eN3]; exact hB484.own (by omega) (by rw [flat_length enS_len]; simp only [List.length_set]; omega)), by rw [List.length_set]; exact hFl, fun j h => by rw [el_set_off (by omega)]; exact hF1 j (by omega), fun j h1 h2 => by
                            by_cases he : j = m - 1
                            · subst he; rw [show m - 1 + 1 = m by omega, el_set_here (by omega)]; exact hF1 (m - 1) (by omega)
                            · rw [el_set_off (by omega)]; exact hF2 j (by omega) h2⟩
                        ·
                          (try dsimp only); omega
                      ·
                        refine exit ?_
                        refine ke467 _ _ _ ?_
                        refine ke461 _ _ _ ?_
                        refine kb451 _ _ ?_
                        refine kn440 _ _ ?_
                        refine region ?_
                        refine st_q (v := .slice a435 ((O.length + 1)) c436) (x_move rfl) ?_
                        refine st_q (v := .int .i64 ((k : Nat) : Int)) (x_move rfl) ?_
                        refine st_q (v := .string ((el S i2))) (x_move rfl) ?_
                        refine st_q (v := .pointer (some ⟨bN, 0 + k * 1, none⟩)) (x_index' T.sl42 rfl eN1 rfl (by omega)) ?_
                        refine st_s (e_stO (v := .string ((el S i2))) (u := (el S i2)) enS_len T.sz9 rfl rfl rfl hOB (by first | omega | (rw [List.length_set]; omega)) (by rfl) ?_)
                        intro w489 _ hP490 hB491
                        have hs492 := hP490.size
                        have hF493 := hC455.pt hP490 (by exact fun e => hap3 bN (by rw [eN1]; rfl) e)
                        have hE494 : Below w142.heap.size w142 w489 := hP490.below hx456 (by omega)
                        have hz495 := hE494.le
                        refine st_nil ?_
                        refine kn193 _ _ ?_
                        refine kn189 _ _ ?_
                        refine region ?_
                        refine st_q (v := .int .i64 ((i2 : Nat) : Int)) (x_move rfl) ?_
                        refine st_q (v := .int .i64 (((i2 + 1) : Nat) : Int)) (x_addN rfl rfl (by omega)) ?_
                        refine st_q (v := .int .i64 (((i2 + 1) : Nat) : Int)) (x_assign rfl) ?_
                        refine st_nil ?_
                        refine kn176 _ ((i2 + 1), (insAt O k (el S i2)), Q, .slice a435 ((O.length + 1)) c436, .slice aQ Q.length cQ) _ ⟨rfl, rfl, rfl, rfl, trivial⟩ ⟨hE494, ?_⟩ ?_
                        ·
                          try dsimp only
                          have hins : (F.set k ((el S i2))) = insAt O k (el S i2) := insAt_el (by omega) (by rw [List.length_set]; exact hFl) (fun j h => by rw [el_set_off (by omega)]; exact hF1 j (by omega)) (el_set_here (by omega)) (fun j h1 h2 => by rw [el_set_off (by omega)]; exact hF2 j (by omega) h2)
                          refine ⟨by omega, hRA.put hSp (by omega) hsome (by omega) hlast hK, ?_, hF493, ?_, by rw [insAt_len _ _ _ (by omega)]; omega⟩
                          · rw [insAt_len _ _ _ (by omega), ← hins]; exact (by rw [eN1, eN3]; exact hB491.own (by omega) (by rw [flat_length enS_len]; simp only [List.length_set]; omega))
                          · exact hap3
                        ·
                          (try dsimp only); omega
            ·
              refine exit ?_
              refine ke182 _ _ _ ?_
              refine ke178 _ _ _ ?_
              refine kb169 _ _ ?_
              refine kn158 _ _ ?_
              refine seqK fun Q496 kn497 kr498 ke499 => ?_
              refine region ?_
              refine st_q (v := .slice aO O.length cO) (x_move rfl) ?_
              refine st_q (v := .slice aQ Q.length cQ) (x_move rfl) ?_
              refine st_e (e_appendX T.sl42 rfl rfl hO2 hQ2.src (ones (by exact flat_onesS)) (by omega) (by decide) (by omega) ?_)
              intro v500 w501 hO502 hG503 hN504 hW505
              have hF506 := hQ2.grown hG503 (fun b hb e => hap b e hb)
              have hE507 : Below w142.heap.size w142 w501 := grown_below hG503 hx173 (Nat.le_refl _) (fun b hb => (by have := (hO2.lt hb).1; clear hb; omega))
              have hz508 := hE507.le
              have hs509 := hG503.size
              have hO510 := hO502.app
              obtain ⟨a511, c512, rfl, hm513, hm514⟩ := hO510.src.form
              refine st_q (v := .slice a511 ((O.length + Q.length)) c512) (x_assign rfl) ?_
              refine st_q (v := .int .i64 ((0 : Nat) : Int)) (x_assign rfl) ?_
              refine st_nil ?_
              refine kn497 _ _ ?_
              refine ret ?_
              refine leave2 (P := Tryd.prog) (fn := Tryd.f20) (t := 4) (u := 5) (v := .slice a511 ((O.length + Q.length)) c512) (v' := .int .i64 ((0 : Nat) : Int)) rfl rfl rfl ?_
              have hfin : O ++ Q = rankL ((tp L).map fun t => el t c) := RankAt.done (S := S) (by rw [show S.length = i2 by omega]; exact hRA) hSm
              refine ⟨_, rfl, Below.e hE507 hEB (Nat.le_refl _), ?_⟩
              rw [← hfin, List.length_append]
              exact hO510.weak (by omega)

end Go.Proofs.YtegpcbckiehleaaDoor
