import Derived.Test.YtknfjgbipfpnjaaGQ
namespace Go.Proofs.Ytknfjgbipfpnjaa
open Go.RowKit Go.Eng Go.OrdPure
open Go.Knot Go.HeapPure
theorem T.cf16 : CF Try.prog 16 := fun _ _ => by kernel_rfl
theorem T.cf18 : CF Try.prog 18 := fun _ _ => by kernel_rfl
theorem T.cf11 : CF Try.prog 11 := fun _ _ => by kernel_rfl
theorem T.cf21 : CF Try.prog 21 := fun _ _ => by kernel_rfl
theorem T.cf20 : CF Try.prog 20 := fun _ _ => by kernel_rfl
theorem T.cf22 : CF Try.prog 22 := fun _ _ => by kernel_rfl
theorem T.cf13 : CF Try.prog 13 := fun _ _ => by kernel_rfl
theorem T.cf26 : CF Try.prog 26 := fun _ _ => by kernel_rfl

theorem PartsIn.ext {w w' : World} {lo : Nat} {us : List Value} {P : List (List ByteArray)} (h : PartsIn w.heap lo us P) (hx : Ext w w') : PartsIn w'.heap lo us P :=
  ⟨h.len, fun i hi => let ⟨h1, h2, b, e, hl, R, hB⟩ := h.row i hi; ⟨h1, h2, b, e, hl, R, hB.ext hx⟩, h.apart⟩
theorem RowsIn.of {h : Array Obj} {lo lo2 : Nat} {v : Value} {us : List Value} {P : List (List ByteArray)} (ho : Own h lo 22 1 v P.length (flat enV us)) (hp : PartsIn h lo2 us P) : RowsIn h v us P := by
  refine ⟨hp.len, ho.src, fun i hi => ?_⟩
  obtain ⟨_, h2, b, e, _, R, hB⟩ := hp.row i hi
  exact ⟨_, _, e, by rw [flat_length enS_len], _, _, rfl, Nat.le_refl _, h2, .inr ⟨b, 0, rfl, Blk.flat hB⟩⟩
set_option maxHeartbeats 4000000 in
theorem num21 (x : Int) (w0 : World) : Calls Try.prog 21 #[.int .i64 x] w0 fun e w' => e = .returned (.int .i64 x) ∧ w0 = w' := by
  refine enter Try.func21 rfl 4 Try.ntmps21 rfl ?_
  refine seqK fun Q1 kn2 kr3 ke4 => ?_
  refine region ?_
  refine st_q (v := .int .i64 ((0 : Nat) : Int)) (x_assign rfl) ?_
  refine st_nil ?_
  refine kn2 _ _ ?_
  refine seqK fun Q5 kn6 kr7 ke8 => ?_
  refine region ?_
  refine st_q (v := .int .i64 x) (x_move rfl) ?_
  refine st_q (v := .int .i64 x) (x_assign rfl) ?_
  refine st_nil ?_
  refine kn6 _ _ ?_
  refine ret ?_
  refine leave1 (P := Try.prog) (fn := Try.f21) (t := 2) (v := .int .i64 x) rfl rfl ?_
  exact ⟨rfl, rfl⟩

theorem rows4 {h : Array Obj} {v : Value} {a1 a2 a3 a4 : Option Addr} {l1 l2 l3 l4 c1 c2 c3 c4 : Nat} (hs : Src h v 4 1 (flat enV [.slice a1 l1 c1, .slice a2 l2 c2, .slice a3 l3 c3, .slice a4 l4 c4]))
    (h1 : Src h (.slice a1 l1 c1) ([kD] : List ByteArray).length 1 (flat enS [kD])) (h2 : Src h (.slice a2 l2 c2) ([kE] : List ByteArray).length 1 (flat enS [kE])) (h3 : Src h (.slice a3 l3 c3) ([kA, kC] : List ByteArray).length 1 (flat enS [kA, kC])) (h4 : Src h (.slice a4 l4 c4) ([kB] : List ByteArray).length 1 (flat enS [kB])) :
    RowsIn h v [.slice a1 l1 c1, .slice a2 l2 c2, .slice a3 l3 c3, .slice a4 l4 c4] P3k := by
  have e1 := h1.capl.1
  have e2 := h2.capl.1
  have e3 := h3.capl.1
  have e4 := h4.capl.1
  subst e1; subst e2; subst e3; subst e4
  refine ⟨rfl, hs, fun i hi => ?_⟩
  have hi4 : i < 4 := hi
  match i, hi4 with
  | 0, _ => exact ⟨_, _, rfl, h1⟩
  | 1, _ => exact ⟨_, _, rfl, h2⟩
  | 2, _ => exact ⟨_, _, rfl, h3⟩
  | 3, _ => exact ⟨_, _, rfl, h4⟩
set_option maxHeartbeats 4000000 in
theorem known15  (w0 : World) : Calls Try.prog 15 #[] w0 fun e w' => e = .returned (.bool true) ∧ Ext w0 w' := by
  have hE0 : Below w0.heap.size w0 w0 := Below.refl _ _
  have hz0 := hE0.le
  refine enter Try.func15 rfl 69 Try.ntmps15 rfl ?_
  refine seqK fun Q1 kn2 kr3 ke4 => ?_
  refine region ?_
  refine st_q (v := .bool false) (x_assign rfl) ?_
  refine st_nil ?_
  refine kn2 _ _ ?_
  refine seqK fun Q5 kn6 kr7 ke8 => ?_
  refine region ?_
  refine st_q (v := .agg #[.string ((ByteArray.mk #[97])), .string ((ByteArray.mk #[98])), .bool false]) (x_build (fun _ => by kernel_rfl)) ?_
  refine st_q (v := .agg #[.string ((ByteArray.mk #[97])), .string ((ByteArray.mk #[99])), .bool true]) (x_build (fun _ => by kernel_rfl)) ?_
  refine st_q (v := .agg #[.string ((ByteArray.mk #[99])), .string ((ByteArray.mk #[100])), .bool true]) (x_build (fun _ => by kernel_rfl)) ?_
  refine st_q (v := .agg #[.string ((ByteArray.mk #[101])), .string ((ByteArray.mk #[97])), .bool false]) (x_build (fun _ => by kernel_rfl)) ?_
  refine st_e (e_buildSlice (cs := [.string ((ByteArray.mk #[97])), .string ((ByteArray.mk #[98])), .bool false, .string ((ByteArray.mk #[97])), .string ((ByteArray.mk #[99])), .bool true, .string ((ByteArray.mk #[99])), .string ((ByteArray.mk #[100])), .bool true, .string ((ByteArray.mk #[101])), .string ((ByteArray.mk #[97])), .bool false]) (e := 47) (fun _ => by kernel_rfl) ?_)
  intro w9 hA10
  have hx11 := hA10.ext
  have hs12 := hA10.size
  have hB13 : Blk w9.heap w0.heap.size [.string ((ByteArray.mk #[97])), .string ((ByteArray.mk #[98])), .bool false, .string ((ByteArray.mk #[97])), .string ((ByteArray.mk #[99])), .bool true, .string ((ByteArray.mk #[99])), .string ((ByteArray.mk #[100])), .bool true, .string ((ByteArray.mk #[101])), .string ((ByteArray.mk #[97])), .bool false] 47 := hA10.new
  have hE14 : Below w0.heap.size w0 w9 := hx11.e hE0 (Nat.le_refl _)
  have hz15 := hE14.le
  have hs16 := hx11.size
  refine st_q (v := .slice ((some ⟨w0.heap.size, 0, none⟩)) 4 4) (x_assign rfl) ?_
  refine st_nil ?_
  refine kn6 _ _ ?_
  refine seqK fun Q17 kn18 kr19 ke20 => ?_
  refine region ?_
  refine st_q (v := .slice ((some ⟨w0.heap.size, 0, none⟩)) 4 4) (x_move rfl) ?_
  have hl21 : Src w9.heap (.slice (some ⟨w0.heap.size, 0, none⟩) 4 4) (L1k : List _).length 3 (flat enE L1k) := hB13.src1 (k := 3) (m := 4) rfl (by omega)
  refine st_c (t_call [.slice none 0 0, .slice ((some ⟨w0.heap.size, 0, none⟩)) 4 4] T.cf16 rfl rfl) (levels16 [] L1k _ _ _ (Src.nil _ _) hl21 (fun s h => absurd h (by simp)) fit1 (by decide)) ?_
  rintro _ w22 (⟨hn, _, _⟩ | ⟨_, v24, lev, rfl, hx23, hIs, hO25⟩)
  · exact absurd hn noloop1
  rw [rank1 hIs, N1] at hO25
  refine ⟨_, rfl, ?_⟩
  have hB26 := hB13.ext hx23
  have hE27 : Below w0.heap.size w0 w22 := hx23.e hE14 (Nat.le_refl _)
  have hz28 := hE27.le
  have hs29 := hx23.size
  refine st_q (v := .tuple #[v24, .int .i64 ((0 : Nat) : Int)]) (x_move rfl) ?_
  refine st_q (v := v24) (x_extract rfl rfl) ?_
  refine st_q (v := .int .i64 ((0 : Nat) : Int)) (x_extract rfl rfl) ?_
  refine st_q (v := v24) (x_assign rfl) ?_
  refine st_q (v := .int .i64 ((0 : Nat) : Int)) (x_assign rfl) ?_
  refine st_nil ?_
  refine kn18 _ _ ?_
  refine seqK fun Q30 kn31 kr32 ke33 => ?_
  refine region ?_
  refine st_q (v := .agg #[.string ((ByteArray.mk #[97])), .string ((ByteArray.mk #[98])), .bool false]) (x_build (fun _ => by kernel_rfl)) ?_
  refine st_q (v := .agg #[.string ((ByteArray.mk #[98])), .string ((ByteArray.mk #[97])), .bool true]) (x_build (fun _ => by kernel_rfl)) ?_
  refine st_q (v := .agg #[.string ((ByteArray.mk #[97])), .string ((ByteArray.mk #[98])), .bool true]) (x_build (fun _ => by kernel_rfl)) ?_
  refine st_e (e_buildSlice (cs := [.string ((ByteArray.mk #[97])), .string ((ByteArray.mk #[98])), .bool false, .string ((ByteArray.mk #[98])), .string ((ByteArray.mk #[97])), .bool true, .string ((ByteArray.mk #[97])), .string ((ByteArray.mk #[98])), .bool true]) (e := 47) (fun _ => by kernel_rfl) ?_)
  intro w34 hA35
  have hx36 := hA35.ext
  have hs37 := hA35.size
  have hB38 : Blk w34.heap w22.heap.size [.string ((ByteArray.mk #[97])), .string ((ByteArray.mk #[98])), .bool false, .string ((ByteArray.mk #[98])), .string ((ByteArray.mk #[97])), .bool true, .string ((ByteArray.mk #[97])), .string ((ByteArray.mk #[98])), .bool true] 47 := hA35.new
  have hB39 := hB26.ext hx36
  have hF40 := hO25.ext hx36
  have hE41 : Below w0.heap.size w0 w34 := hx36.e hE27 (Nat.le_refl _)
  have hz42 := hE41.le
  have hs43 := hx36.size
  have hl44 : Src w34.heap (.slice (some ⟨w22.heap.size, 0, none⟩) 3 3) (L2k : List _).length 3 (flat enE L2k) := hB38.src1 (k := 3) (m := 3) rfl (by omega)
  refine st_c (t_call [.slice ((some ⟨w22.heap.size, 0, none⟩)) 3 3] T.cf18 rfl rfl) (cycle18 L2k _ _ hl44 fit2 (by decide)) ?_
  rintro _ w45 ⟨v47, row50, ok51, rfl, hx46, hC49, hO48⟩
  obtain ⟨rfl, rfl⟩ := cyc2' hC49
  refine ⟨_, rfl, ?_⟩
  have hB52 := hB39.ext hx46
  have hB53 := hB38.ext hx46
  have hF54 := hF40.ext hx46
  have hE55 : Below w0.heap.size w0 w45 := hx46.e hE41 (Nat.le_refl _)
  have hz56 := hE55.le
  have hs57 := hx46.size
  refine st_q (v := .tuple #[v47, .bool true]) (x_move rfl) ?_
  refine st_q (v := v47) (x_extract rfl rfl) ?_
  refine st_q (v := .bool true) (x_extract rfl rfl) ?_
  refine st_q (v := v47) (x_assign rfl) ?_
  refine st_q (v := .bool true) (x_assign rfl) ?_
  refine st_nil ?_
  refine kn31 _ _ ?_
  refine seqK fun Q58 kn59 kr60 ke61 => ?_
  refine region ?_
  refine st_e (e_buildSlice (cs := [.string ((ByteArray.mk #[100]))]) (e := 9) (fun _ => by kernel_rfl) ?_)
  intro w62 hA63
  have hx64 := hA63.ext
  have hs65 := hA63.size
  have hB66 : Blk w62.heap w45.heap.size [.string ((ByteArray.mk #[100]))] 9 := hA63.new
  have hB67 := hB52.ext hx64
  have hB68 := hB53.ext hx64
  have hF69 := hF54.ext hx64
  have hF70 := hO48.ext hx64
  have hE71 : Below w0.heap.size w0 w62 := hx64.e hE55 (Nat.le_refl _)
  have hz72 := hE71.le
  have hs73 := hx64.size
  refine st_q (v := .agg #[.string ((ByteArray.mk #[97])), .string ((ByteArray.mk #[99])), .bool false]) (x_build (fun _ => by kernel_rfl)) ?_
  refine st_q (v := .agg #[.string ((ByteArray.mk #[98])), .string ((ByteArray.mk #[97])), .bool false]) (x_build (fun _ => by kernel_rfl)) ?_
  refine st_q (v := .agg #[.string ((ByteArray.mk #[99])), .string ((ByteArray.mk #[97])), .bool false]) (x_build (fun _ => by kernel_rfl)) ?_
  refine st_q (v := .agg #[.string ((ByteArray.mk #[99])), .string ((ByteArray.mk #[101])), .bool false]) (x_build (fun _ => by kernel_rfl)) ?_
  refine st_e (e_buildSlice (cs := [.string ((ByteArray.mk #[97])), .string ((ByteArray.mk #[99])), .bool false, .string ((ByteArray.mk #[98])), .string ((ByteArray.mk #[97])), .bool false, .string ((ByteArray.mk #[99])), .string ((ByteArray.mk #[97])), .bool false, .string ((ByteArray.mk #[99])), .string ((ByteArray.mk #[101])), .bool false]) (e := 47) (fun _ => by kernel_rfl) ?_)
  intro w74 hA75
  have hx76 := hA75.ext
  have hs77 := hA75.size
  have hB78 : Blk w74.heap w62.heap.size [.string ((ByteArray.mk #[97])), .string ((ByteArray.mk #[99])), .bool false, .string ((ByteArray.mk #[98])), .string ((ByteArray.mk #[97])), .bool false, .string ((ByteArray.mk #[99])), .string ((ByteArray.mk #[97])), .bool false, .string ((ByteArray.mk #[99])), .string ((ByteArray.mk #[101])), .bool false] 47 := hA75.new
  have hB79 := hB67.ext hx76
  have hB80 := hB68.ext hx76
  have hB81 := hB66.ext hx76
  have hF82 := hF69.ext hx76
  have hF83 := hF70.ext hx76
  have hE84 : Below w0.heap.size w0 w74 := hx76.e hE71 (Nat.le_refl _)
  have hz85 := hE84.le
  have hs86 := hx76.size
  have hl87 : Src w74.heap (.slice (some ⟨w45.heap.size, 0, none⟩) 1 1) (([kD] : List ByteArray) : List _).length 1 (flat enS ([kD] : List ByteArray)) := hB81.src1 (k := 1) (m := 1) rfl (by omega)
  have hl88 : Src w74.heap (.slice (some ⟨w62.heap.size, 0, none⟩) 4 4) (L3k : List _).length 3 (flat enE L3k) := hB78.src1 (k := 3) (m := 4) rfl (by omega)
  refine st_c (t_call [.slice ((some ⟨w45.heap.size, 0, none⟩)) 1 1, .slice ((some ⟨w62.heap.size, 0, none⟩)) 4 4] T.cf11 rfl rfl) (parts11 [kD] L3k _ _ _ hl87 hl88 (fitK (by decide)) fit3 (by decide)) ?_
  rintro _ w89 ⟨v91, us94, P95, rfl, hx90, hG93, hO92, hP96⟩
  obtain rfl := parts3 hG93
  refine ⟨_, rfl, ?_⟩
  have hB97 := hB79.ext hx90
  have hB98 := hB80.ext hx90
  have hB99 := hB81.ext hx90
  have hB100 := hB78.ext hx90
  have hF101 := hF82.ext hx90
  have hF102 := hF83.ext hx90
  have hE103 : Below w0.heap.size w0 w89 := hx90.e hE84 (Nat.le_refl _)
  have hz104 := hE103.le
  have hs105 := hx90.size
  refine st_q (v := v91) (x_assign rfl) ?_
  refine st_nil ?_
  refine kn59 _ _ ?_
  refine seqK fun Q106 kn107 kr108 ke109 => ?_
  refine region ?_
  refine st_q (v := .int .i64 ((0 : Nat) : Int)) (x_move rfl) ?_
  refine st_c (t_call [.int .i64 ((0 : Nat) : Int)] T.cf21 rfl rfl) (num21 _ _) ?_
  rintro _ _ ⟨rfl, rfl⟩
  refine ⟨_, rfl, ?_⟩
  refine st_q (v := .bool (decide (0 = 0))) (x_eqlN rfl rfl) ?_
  refine st_if (p := 0 = 0) (x_move rfl) (fun h110 => ?_) (fun h110 => ?_)
  ·
    refine st_gq 3 35 rfl rfl (by decide) ?_
    refine st_q (v := v24) (x_move rfl) ?_
    refine st_gq 3 35 rfl rfl (by decide) ?_
    refine st_q (v := .agg #[.string ((ByteArray.mk #[97])), .int .i64 ((2 : Nat) : Int)]) (x_build (fun _ => by kernel_rfl)) ?_
    refine st_gq 3 35 rfl rfl (by decide) ?_
    refine st_q (v := .agg #[.string ((ByteArray.mk #[98])), .int .i64 ((0 : Nat) : Int)]) (x_build (fun _ => by kernel_rfl)) ?_
    refine st_gq 3 35 rfl rfl (by decide) ?_
    refine st_q (v := .agg #[.string ((ByteArray.mk #[99])), .int .i64 ((1 : Nat) : Int)]) (x_build (fun _ => by kernel_rfl)) ?_
    refine st_gq 3 35 rfl rfl (by decide) ?_
    refine st_q (v := .agg #[.string ((ByteArray.mk #[100])), .int .i64 ((0 : Nat) : Int)]) (x_build (fun _ => by kernel_rfl)) ?_
    refine st_gq 3 35 rfl rfl (by decide) ?_
    refine st_q (v := .agg #[.string ((ByteArray.mk #[101])), .int .i64 ((2 : Nat) : Int)]) (x_build (fun _ => by kernel_rfl)) ?_
    refine st_gq 3 35 rfl rfl (by decide) ?_
    refine st_e (e_buildSlice (cs := [.string ((ByteArray.mk #[97])), .int .i64 ((2 : Nat) : Int), .string ((ByteArray.mk #[98])), .int .i64 ((0 : Nat) : Int), .string ((ByteArray.mk #[99])), .int .i64 ((1 : Nat) : Int), .string ((ByteArray.mk #[100])), .int .i64 ((0 : Nat) : Int), .string ((ByteArray.mk #[101])), .int .i64 ((2 : Nat) : Int)]) (e := 45) (fun _ => by kernel_rfl) ?_)
    intro w111 hA112
    have hx113 := hA112.ext
    have hs114 := hA112.size
    have hB115 : Blk w111.heap w89.heap.size [.string ((ByteArray.mk #[97])), .int .i64 ((2 : Nat) : Int), .string ((ByteArray.mk #[98])), .int .i64 ((0 : Nat) : Int), .string ((ByteArray.mk #[99])), .int .i64 ((1 : Nat) : Int), .string ((ByteArray.mk #[100])), .int .i64 ((0 : Nat) : Int), .string ((ByteArray.mk #[101])), .int .i64 ((2 : Nat) : Int)] 45 := hA112.new
    have hB116 := hB97.ext hx113
    have hB117 := hB98.ext hx113
    have hB118 := hB99.ext hx113
    have hB119 := hB100.ext hx113
    have hF120 := hF101.ext hx113
    have hF121 := hF102.ext hx113
    have hF122 := hO92.ext hx113
    have hF123 := PartsIn.ext hP96 hx113
    have hE124 : Below w0.heap.size w0 w111 := hx113.e hE103 (Nat.le_refl _)
    have hz125 := hE124.le
    have hs126 := hx113.size
    refine st_gq 3 35 rfl rfl (by decide) ?_
    have hl129 : Src w111.heap (.slice (some ⟨w89.heap.size, 0, none⟩) 5 5) (R1k : List _).length 2 (flat enR R1k) := hB115.src1 (k := 2) (m := 5) rfl (by omega)
    refine st_c (t_call [v24, .slice ((some ⟨w89.heap.size, 0, none⟩)) 5 5] T.cf20 rfl rfl) (sameRanks20 R1k R1k _ _ _ hF120.src hl129) ?_
    rintro _ w127 ⟨e, hx128⟩
    rw [decide_eq_true rfl] at e
    subst e
    refine ⟨_, rfl, ?_⟩
    have hB130 := hB116.ext hx128
    have hB131 := hB117.ext hx128
    have hB132 := hB118.ext hx128
    have hB133 := hB119.ext hx128
    have hB134 := hB115.ext hx128
    have hF135 := hF120.ext hx128
    have hF136 := hF121.ext hx128
    have hF137 := hF122.ext hx128
    have hF138 := PartsIn.ext hF123 hx128
    have hE139 : Below w0.heap.size w0 w127 := hx128.e hE124 (Nat.le_refl _)
    have hz140 := hE139.le
    have hs141 := hx128.size
    refine st_q (v := .bool true) (x_pickT rfl rfl) ?_
    refine st_q (v := .bool true) (x_move rfl) ?_
    refine st_gq 13 45 rfl rfl (by decide) ?_
    refine st_q (v := .bool true) (x_move rfl) ?_
    refine st_q (v := .bool true) (x_pickT rfl rfl) ?_
    refine st_q (v := .bool true) (x_move rfl) ?_
    refine st_gq 16 48 rfl rfl (by decide) ?_
    refine st_q (v := v47) (x_move rfl) ?_
    refine st_gq 16 48 rfl rfl (by decide) ?_
    refine st_e (e_buildSlice (cs := [.int .i64 ((1 : Nat) : Int), .int .i64 ((0 : Nat) : Int)]) (e := 3) (fun _ => by kernel_rfl) ?_)
    intro w142 hA143
    have hx144 := hA143.ext
    have hs145 := hA143.size
    have hB146 : Blk w142.heap w127.heap.size [.int .i64 ((1 : Nat) : Int), .int .i64 ((0 : Nat) : Int)] 3 := hA143.new
    have hB147 := hB130.ext hx144
    have hB148 := hB131.ext hx144
    have hB149 := hB132.ext hx144
    have hB150 := hB133.ext hx144
    have hB151 := hB134.ext hx144
    have hF152 := hF135.ext hx144
    have hF153 := hF136.ext hx144
    have hF154 := hF137.ext hx144
    have hF155 := PartsIn.ext hF138 hx144
    have hE156 : Below w0.heap.size w0 w142 := hx144.e hE139 (Nat.le_refl _)
    have hz157 := hE156.le
    have hs158 := hx144.size
    refine st_gq 16 48 rfl rfl (by decide) ?_
    have hl161 : Src w142.heap (.slice (some ⟨w127.heap.size, 0, none⟩) 2 2) (([1, 0] : List Nat) : List _).length 1 (flat enN ([1, 0] : List Nat)) := hB146.src1 (k := 1) (m := 2) rfl (by omega)
    refine st_c (t_call [v47, .slice ((some ⟨w127.heap.size, 0, none⟩)) 2 2] T.cf22 rfl rfl) (sameInts22 [1, 0] [1, 0] _ _ _ hF153.src hl161) ?_
    rintro _ w159 ⟨e, hx160⟩
    rw [decide_eq_true rfl] at e
    subst e
    refine ⟨_, rfl, ?_⟩
    have hB162 := hB147.ext hx160
    have hB163 := hB148.ext hx160
    have hB164 := hB149.ext hx160
    have hB165 := hB150.ext hx160
    have hB166 := hB151.ext hx160
    have hB167 := hB146.ext hx160
    have hF168 := hF152.ext hx160
    have hF169 := hF153.ext hx160
    have hF170 := hF154.ext hx160
    have hF171 := PartsIn.ext hF155 hx160
    have hE172 : Below w0.heap.size w0 w159 := hx160.e hE156 (Nat.le_refl _)
    have hz173 := hE172.le
    have hs174 := hx160.size
    refine st_q (v := .bool true) (x_pickT rfl rfl) ?_
    refine st_q (v := .bool true) (x_move rfl) ?_
    refine st_gq 21 53 rfl rfl (by decide) ?_
    refine st_q (v := v91) (x_move rfl) ?_
    refine st_gq 21 53 rfl rfl (by decide) ?_
    refine st_e (e_buildSlice (cs := [.string ((ByteArray.mk #[100]))]) (e := 9) (fun _ => by kernel_rfl) ?_)
    intro w175 hA176
    have hx177 := hA176.ext
    have hs178 := hA176.size
    have hB179 : Blk w175.heap w159.heap.size [.string ((ByteArray.mk #[100]))] 9 := hA176.new
    have hB180 := hB162.ext hx177
    have hB181 := hB163.ext hx177
    have hB182 := hB164.ext hx177
    have hB183 := hB165.ext hx177
    have hB184 := hB166.ext hx177
    have hB185 := hB167.ext hx177
    have hF186 := hF168.ext hx177
    have hF187 := hF169.ext hx177
    have hF188 := hF170.ext hx177
    have hF189 := PartsIn.ext hF171 hx177
    have hE190 : Below w0.heap.size w0 w175 := hx177.e hE172 (Nat.le_refl _)
    have hz191 := hE190.le
    have hs192 := hx177.size
    refine st_gq 21 53 rfl rfl (by decide) ?_
    refine st_e (e_buildSlice (cs := [.string ((ByteArray.mk #[101]))]) (e := 9) (fun _ => by kernel_rfl) ?_)
    intro w193 hA194
    have hx195 := hA194.ext
    have hs196 := hA194.size
    have hB197 : Blk w193.heap w175.heap.size [.string ((ByteArray.mk #[101]))] 9 := hA194.new
    have hB198 := hB180.ext hx195
    have hB199 := hB181.ext hx195
    have hB200 := hB182.ext hx195
    have hB201 := hB183.ext hx195
    have hB202 := hB184.ext hx195
    have hB203 := hB185.ext hx195
    have hB204 := hB179.ext hx195
    have hF205 := hF186.ext hx195
    have hF206 := hF187.ext hx195
    have hF207 := hF188.ext hx195
    have hF208 := PartsIn.ext hF189 hx195
    have hE209 : Below w0.heap.size w0 w193 := hx195.e hE190 (Nat.le_refl _)
    have hz210 := hE209.le
    have hs211 := hx195.size
    refine st_gq 21 53 rfl rfl (by decide) ?_
    refine st_e (e_buildSlice (cs := [.string ((ByteArray.mk #[97])), .string ((ByteArray.mk #[99]))]) (e := 9) (fun _ => by kernel_rfl) ?_)
    intro w212 hA213
    have hx214 := hA213.ext
    have hs215 := hA213.size
    have hB216 : Blk w212.heap w193.heap.size [.string ((ByteArray.mk #[97])), .string ((ByteArray.mk #[99]))] 9 := hA213.new
    have hB217 := hB198.ext hx214
    have hB218 := hB199.ext hx214
    have hB219 := hB200.ext hx214
    have hB220 := hB201.ext hx214
    have hB221 := hB202.ext hx214
    have hB222 := hB203.ext hx214
    have hB223 := hB204.ext hx214
    have hB224 := hB197.ext hx214
    have hF225 := hF205.ext hx214
    have hF226 := hF206.ext hx214
    have hF227 := hF207.ext hx214
    have hF228 := PartsIn.ext hF208 hx214
    have hE229 : Below w0.heap.size w0 w212 := hx214.e hE209 (Nat.le_refl _)
    have hz230 := hE229.le
    have hs231 := hx214.size
    refine st_gq 21 53 rfl rfl (by decide) ?_
    refine st_e (e_buildSlice (cs := [.string ((ByteArray.mk #[98]))]) (e := 9) (fun _ => by kernel_rfl) ?_)
    intro w232 hA233
    have hx234 := hA233.ext
    have hs235 := hA233.size
    have hB236 : Blk w232.heap w212.heap.size [.string ((ByteArray.mk #[98]))] 9 := hA233.new
    have hB237 := hB217.ext hx234
    have hB238 := hB218.ext hx234
    have hB239 := hB219.ext hx234
    have hB240 := hB220.ext hx234
    have hB241 := hB221.ext hx234
    have hB242 := hB222.ext hx234
    have hB243 := hB223.ext hx234
    have hB244 := hB224.ext hx234
    have hB245 := hB216.ext hx234
    have hF246 := hF225.ext hx234
    have hF247 := hF226.ext hx234
    have hF248 := hF227.ext hx234
    have hF249 := PartsIn.ext hF228 hx234
    have hE250 : Below w0.heap.size w0 w232 := hx234.e hE229 (Nat.le_refl _)
    have hz251 := hE250.le
    have hs252 := hx234.size
    refine st_gq 21 53 rfl rfl (by decide) ?_
    refine st_e (e_buildSlice (cs := [.slice ((some ⟨w159.heap.size, 0, none⟩)) 1 1, .slice ((some ⟨w175.heap.size, 0, none⟩)) 1 1, .slice ((some ⟨w193.heap.size, 0, none⟩)) 2 2, .slice ((some ⟨w212.heap.size, 0, none⟩)) 1 1]) (e := 22) (fun _ => by kernel_rfl) ?_)
    intro w253 hA254
    have hx255 := hA254.ext
    have hs256 := hA254.size
    have hB257 : Blk w253.heap w232.heap.size [.slice ((some ⟨w159.heap.size, 0, none⟩)) 1 1, .slice ((some ⟨w175.heap.size, 0, none⟩)) 1 1, .slice ((some ⟨w193.heap.size, 0, none⟩)) 2 2, .slice ((some ⟨w212.heap.size, 0, none⟩)) 1 1] 22 := hA254.new
    have hB258 := hB237.ext hx255
    have hB259 := hB238.ext hx255
    have hB260 := hB239.ext hx255
    have hB261 := hB240.ext hx255
    have hB262 := hB241.ext hx255
    have hB263 := hB242.ext hx255
    have hB264 := hB243.ext hx255
    have hB265 := hB244.ext hx255
    have hB266 := hB245.ext hx255
    have hB267 := hB236.ext hx255
    have hF268 := hF246.ext hx255
    have hF269 := hF247.ext hx255
    have hF270 := hF248.ext hx255
    have hF271 := PartsIn.ext hF249 hx255
    have hE272 : Below w0.heap.size w0 w253 := hx255.e hE250 (Nat.le_refl _)
    have hz273 := hE272.le
    have hs274 := hx255.size
    refine st_gq 21 53 rfl rfl (by decide) ?_
    have hl278 : Src w253.heap (.slice (some ⟨w159.heap.size, 0, none⟩) 1 1) (([kD] : List ByteArray) : List _).length 1 (flat enS ([kD] : List ByteArray)) := hB264.src1 (k := 1) (m := 1) rfl (by omega)
    have hl279 : Src w253.heap (.slice (some ⟨w175.heap.size, 0, none⟩) 1 1) (([kE] : List ByteArray) : List _).length 1 (flat enS ([kE] : List ByteArray)) := hB265.src1 (k := 1) (m := 1) rfl (by omega)
    have hl280 : Src w253.heap (.slice (some ⟨w193.heap.size, 0, none⟩) 2 2) (([kA, kC] : List ByteArray) : List _).length 1 (flat enS ([kA, kC] : List ByteArray)) := hB266.src1 (k := 1) (m := 2) rfl (by omega)
    have hl281 : Src w253.heap (.slice (some ⟨w212.heap.size, 0, none⟩) 1 1) (([kB] : List ByteArray) : List _).length 1 (flat enS ([kB] : List ByteArray)) := hB267.src1 (k := 1) (m := 1) rfl (by omega)
    have hRI277 : RowsIn w253.heap (.slice (some ⟨w232.heap.size, 0, none⟩) 4 4) [.slice ((some ⟨w159.heap.size, 0, none⟩)) 1 1, .slice ((some ⟨w175.heap.size, 0, none⟩)) 1 1, .slice ((some ⟨w193.heap.size, 0, none⟩)) 2 2, .slice ((some ⟨w212.heap.size, 0, none⟩)) 1 1] P3k := rows4 (hB257.src1 (k := 1) (m := 4) rfl (by omega)) hl278 hl279 hl280 hl281
    refine st_c (t_call [v91, .slice ((some ⟨w232.heap.size, 0, none⟩)) 4 4] T.cf13 rfl rfl) (sameParts13 P3k P3k _ _ _ _ _ (RowsIn.of hF270 hF271) hRI277) ?_
    rintro _ w275 ⟨e, hx276⟩
    rw [decide_eq_true rfl] at e
    subst e
    refine ⟨_, rfl, ?_⟩
    have hB282 := hB258.ext hx276
    have hB283 := hB259.ext hx276
    have hB284 := hB260.ext hx276
    have hB285 := hB261.ext hx276
    have hB286 := hB262.ext hx276
    have hB287 := hB263.ext hx276
    have hB288 := hB264.ext hx276
    have hB289 := hB265.ext hx276
    have hB290 := hB266.ext hx276
    have hB291 := hB267.ext hx276
    have hB292 := hB257.ext hx276
    have hF293 := hF268.ext hx276
    have hF294 := hF269.ext hx276
    have hF295 := hF270.ext hx276
    have hF296 := PartsIn.ext hF271 hx276
    have hE297 : Below w0.heap.size w0 w275 := hx276.e hE272 (Nat.le_refl _)
    have hz298 := hE297.le
    have hs299 := hx276.size
    refine st_q (v := .bool true) (x_pickT rfl rfl) ?_
    refine st_q (v := .bool true) (x_move rfl) ?_
    refine st_gq 30 62 rfl rfl (by decide) ?_
    refine st_q (v := .slice ((some ⟨w0.heap.size, 0, none⟩)) 4 4) (x_move rfl) ?_
    refine st_gq 30 62 rfl rfl (by decide) ?_
    refine st_e (e_buildSlice (cs := [.string ((ByteArray.mk #[99]))]) (e := 9) (fun _ => by kernel_rfl) ?_)
    intro w300 hA301
    have hx302 := hA301.ext
    have hs303 := hA301.size
    have hB304 : Blk w300.heap w275.heap.size [.string ((ByteArray.mk #[99]))] 9 := hA301.new
    have hB305 := hB282.ext hx302
    have hB306 := hB283.ext hx302
    have hB307 := hB284.ext hx302
    have hB308 := hB285.ext hx302
    have hB309 := hB286.ext hx302
    have hB310 := hB287.ext hx302
    have hB311 := hB288.ext hx302
    have hB312 := hB289.ext hx302
    have hB313 := hB290.ext hx302
    have hB314 := hB291.ext hx302
    have hB315 := hB292.ext hx302
    have hF316 := hF293.ext hx302
    have hF317 := hF294.ext hx302
    have hF318 := hF295.ext hx302
    have hF319 := PartsIn.ext hF296 hx302
    have hE320 : Below w0.heap.size w0 w300 := hx302.e hE297 (Nat.le_refl _)
    have hz321 := hE320.le
    have hs322 := hx302.size
    refine st_gq 30 62 rfl rfl (by decide) ?_
    have hl323 : Src w300.heap (.slice (some ⟨w0.heap.size, 0, none⟩) 4 4) (L1k : List _).length 3 (flat enE L1k) := hB305.src1 (k := 3) (m := 4) rfl (by omega)
    have hl324 : Src w300.heap (.slice (some ⟨w275.heap.size, 0, none⟩) 1 1) (([kC] : List ByteArray) : List _).length 1 (flat enS ([kC] : List ByteArray)) := hB304.src1 (k := 1) (m := 1) rfl (by omega)
    refine st_c (t_call [.slice ((some ⟨w0.heap.size, 0, none⟩)) 4 4, .slice ((some ⟨w275.heap.size, 0, none⟩)) 1 1] T.cf26 rfl rfl) (reach26 L1k [kC] _ _ _ hl323 hl324 (fitK (by decide)) fit1 (by decide)) ?_
    rintro _ w325 ⟨v327, R330, rfl, hx326, hR329, hO328⟩
    obtain rfl := reach1 hR329
    refine ⟨_, rfl, ?_⟩
    have hB331 := hB305.ext hx326
    have hB332 := hB306.ext hx326
    have hB333 := hB307.ext hx326
    have hB334 := hB308.ext hx326
    have hB335 := hB309.ext hx326
    have hB336 := hB310.ext hx326
    have hB337 := hB311.ext hx326
    have hB338 := hB312.ext hx326
    have hB339 := hB313.ext hx326
    have hB340 := hB314.ext hx326
    have hB341 := hB315.ext hx326
    have hB342 := hB304.ext hx326
    have hF343 := hF316.ext hx326
    have hF344 := hF317.ext hx326
    have hF345 := hF318.ext hx326
    have hF346 := PartsIn.ext hF319 hx326
    have hE347 : Below w0.heap.size w0 w325 := hx326.e hE320 (Nat.le_refl _)
    have hz348 := hE347.le
    have hs349 := hx326.size
    refine st_gq 30 62 rfl rfl (by decide) ?_
    refine st_e (e_buildSlice (cs := [.string ((ByteArray.mk #[99])), .string ((ByteArray.mk #[100]))]) (e := 9) (fun _ => by kernel_rfl) ?_)
    intro w350 hA351
    have hx352 := hA351.ext
    have hs353 := hA351.size
    have hB354 : Blk w350.heap w325.heap.size [.string ((ByteArray.mk #[99])), .string ((ByteArray.mk #[100]))] 9 := hA351.new
    have hB355 := hB331.ext hx352
    have hB356 := hB332.ext hx352
    have hB357 := hB333.ext hx352
    have hB358 := hB334.ext hx352
    have hB359 := hB335.ext hx352
    have hB360 := hB336.ext hx352
    have hB361 := hB337.ext hx352
    have hB362 := hB338.ext hx352
    have hB363 := hB339.ext hx352
    have hB364 := hB340.ext hx352
    have hB365 := hB341.ext hx352
    have hB366 := hB342.ext hx352
    have hF367 := hF343.ext hx352
    have hF368 := hF344.ext hx352
    have hF369 := hF345.ext hx352
    have hF370 := PartsIn.ext hF346 hx352
    have hF371 := hO328.ext hx352
    have hE372 : Below w0.heap.size w0 w350 := hx352.e hE347 (Nat.le_refl _)
    have hz373 := hE372.le
    have hs374 := hx352.size
    refine st_gq 30 62 rfl rfl (by decide) ?_
    have hl377 : Src w350.heap (.slice (some ⟨w325.heap.size, 0, none⟩) 2 2) (([kC, kD] : List ByteArray) : List _).length 1 (flat enS ([kC, kD] : List ByteArray)) := hB354.src1 (k := 1) (m := 2) rfl (by omega)
    refine st_c (t_call [v327, .slice ((some ⟨w325.heap.size, 0, none⟩)) 2 2] T.cf29 rfl rfl) (same29 [kC, kD] [kC, kD] _ _ _ hF371.src hl377) ?_
    rintro _ w375 ⟨e, hx376⟩
    rw [decide_eq_true rfl] at e
    subst e
    refine ⟨_, rfl, ?_⟩
    have hB378 := hB355.ext hx376
    have hB379 := hB356.ext hx376
    have hB380 := hB357.ext hx376
    have hB381 := hB358.ext hx376
    have hB382 := hB359.ext hx376
    have hB383 := hB360.ext hx376
    have hB384 := hB361.ext hx376
    have hB385 := hB362.ext hx376
    have hB386 := hB363.ext hx376
    have hB387 := hB364.ext hx376
    have hB388 := hB365.ext hx376
    have hB389 := hB366.ext hx376
    have hB390 := hB354.ext hx376
    have hF391 := hF367.ext hx376
    have hF392 := hF368.ext hx376
    have hF393 := hF369.ext hx376
    have hF394 := PartsIn.ext hF370 hx376
    have hF395 := hF371.ext hx376
    have hE396 : Below w0.heap.size w0 w375 := hx376.e hE372 (Nat.le_refl _)
    have hz397 := hE396.le
    have hs398 := hx376.size
    refine st_q (v := .bool true) (x_pickT rfl rfl) ?_
    refine st_q (v := .bool true) (x_assign rfl) ?_
    refine st_nil ?_
    refine kn107 _ _ ?_
    refine ret ?_
    refine leave1 (P := Try.prog) (fn := Try.f15) (t := 0) (v := .bool true) rfl rfl ?_
    exact ⟨rfl, hE396⟩
  ·
    exact absurd h110 (not_not_intro rfl)

end Go.Proofs.Ytknfjgbipfpnjaa
