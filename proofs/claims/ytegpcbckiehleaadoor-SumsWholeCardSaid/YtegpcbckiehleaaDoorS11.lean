import Derived.Test.YtegpcbckiehleaaDoorS10
import Derived.Test.YtegpcbckiehleaaDoorSK
namespace Go.Proofs.YtegpcbckiehleaaDoor
open Go.RowKit Go.Eng Go.OrdPure Go.Flt
theorem T.zv29 : ZV Tryd.prog 29 (.agg #[.string ByteArray.empty, .int .i64 ((0 : Nat) : Int), .slice none 0 0]) := fun _ => by kernel_rfl
theorem T.sz29 : SZ Tryd.prog 29 3 := fun _ => by kernel_rfl
theorem T.cf32 : CF Tryd.prog 32 := fun _ _ => by kernel_rfl
theorem T.cf15 : CF Tryd.prog 15 := fun _ _ => by kernel_rfl
theorem T.cf13 : CF Tryd.prog 13 := fun _ _ => by kernel_rfl
theorem T.cf19 : CF Tryd.prog 19 := fun _ _ => by kernel_rfl
theorem T.cf16 : CF Tryd.prog 16 := fun _ _ => by kernel_rfl

set_option maxHeartbeats 4000000 in
theorem pay32  (w0 : World) : Calls Tryd.prog 32 #[] w0 fun e w' => ∃ (va : Value) (L : List Row), e = .returned (.agg #[.string (ByteArray.mk #[112, 97, 121]), .int .i64 2, va]) ∧ Ext w0 w' ∧ Src w'.heap va 4 1 (flat enR L) ∧ RowsP w'.heap L ∧ tp L = payT := by
  have hE0 : Below w0.heap.size w0 w0 := Below.refl _ _
  have hz0 := hE0.le
  refine enter Tryd.func32 rfl 7 Tryd.ntmps32 rfl ?_
  refine seqK fun Q1 kn2 kr3 ke4 => ?_
  refine region ?_
  refine st_e (e_alloc T.zv29 ?_)
  intro w5 hA6
  have hx7 := hA6.ext
  have hs8 := hA6.size
  have hB9 : Blk w5.heap w0.heap.size [.string ByteArray.empty, .int .i64 ((0 : Nat) : Int), .slice none 0 0] 29 := hA6.new
  have hE10 : Below w0.heap.size w0 w5 := hx7.e hE0 (Nat.le_refl _)
  have hz11 := hE10.le
  have hs12 := hx7.size
  refine st_nil ?_
  refine kn2 _ _ ?_
  refine seqK fun Q13 kn14 kr15 ke16 => ?_
  refine region ?_
  refine st_e (e_buildSlice (cs := [.string ((ByteArray.mk #[97])), .string ((ByteArray.mk #[51]))]) (e := 9) (fun _ => by kernel_rfl) ?_)
  intro w17 hA18
  have hx19 := hA18.ext
  have hs20 := hA18.size
  have hB21 : Blk w17.heap w5.heap.size [.string ((ByteArray.mk #[97])), .string ((ByteArray.mk #[51]))] 9 := hA18.new
  have hB22 := hB9.ext hx19
  have hE23 : Below w0.heap.size w0 w17 := hx19.e hE10 (Nat.le_refl _)
  have hz24 := hE23.le
  have hs25 := hx19.size
  refine st_e (e_buildSlice (cs := [.string ((ByteArray.mk #[97])), .string ((ByteArray.mk #[53]))]) (e := 9) (fun _ => by kernel_rfl) ?_)
  intro w26 hA27
  have hx28 := hA27.ext
  have hs29 := hA27.size
  have hB30 : Blk w26.heap w17.heap.size [.string ((ByteArray.mk #[97])), .string ((ByteArray.mk #[53]))] 9 := hA27.new
  have hB31 := hB22.ext hx28
  have hB32 := hB21.ext hx28
  have hE33 : Below w0.heap.size w0 w26 := hx28.e hE23 (Nat.le_refl _)
  have hz34 := hE33.le
  have hs35 := hx28.size
  refine st_e (e_buildSlice (cs := [.string ((ByteArray.mk #[98])), .string ((ByteArray.mk #[45, 48, 46, 53]))]) (e := 9) (fun _ => by kernel_rfl) ?_)
  intro w36 hA37
  have hx38 := hA37.ext
  have hs39 := hA37.size
  have hB40 : Blk w36.heap w26.heap.size [.string ((ByteArray.mk #[98])), .string ((ByteArray.mk #[45, 48, 46, 53]))] 9 := hA37.new
  have hB41 := hB31.ext hx38
  have hB42 := hB32.ext hx38
  have hB43 := hB30.ext hx38
  have hE44 : Below w0.heap.size w0 w36 := hx38.e hE33 (Nat.le_refl _)
  have hz45 := hE44.le
  have hs46 := hx38.size
  refine st_e (e_buildSlice (cs := [.string ((ByteArray.mk #[98])), .string ((ByteArray.mk #[120]))]) (e := 9) (fun _ => by kernel_rfl) ?_)
  intro w47 hA48
  have hx49 := hA48.ext
  have hs50 := hA48.size
  have hB51 : Blk w47.heap w36.heap.size [.string ((ByteArray.mk #[98])), .string ((ByteArray.mk #[120]))] 9 := hA48.new
  have hB52 := hB41.ext hx49
  have hB53 := hB42.ext hx49
  have hB54 := hB43.ext hx49
  have hB55 := hB40.ext hx49
  have hE56 : Below w0.heap.size w0 w47 := hx49.e hE44 (Nat.le_refl _)
  have hz57 := hE56.le
  have hs58 := hx49.size
  refine st_e (e_buildSlice (cs := [.slice ((some ⟨w5.heap.size, 0, none⟩)) 2 2, .slice ((some ⟨w17.heap.size, 0, none⟩)) 2 2, .slice ((some ⟨w26.heap.size, 0, none⟩)) 2 2, .slice ((some ⟨w36.heap.size, 0, none⟩)) 2 2]) (e := 42) (fun _ => by kernel_rfl) ?_)
  intro w59 hA60
  have hx61 := hA60.ext
  have hs62 := hA60.size
  have hB63 : Blk w59.heap w47.heap.size [.slice ((some ⟨w5.heap.size, 0, none⟩)) 2 2, .slice ((some ⟨w17.heap.size, 0, none⟩)) 2 2, .slice ((some ⟨w26.heap.size, 0, none⟩)) 2 2, .slice ((some ⟨w36.heap.size, 0, none⟩)) 2 2] 42 := hA60.new
  have hB64 := hB52.ext hx61
  have hB65 := hB53.ext hx61
  have hB66 := hB54.ext hx61
  have hB67 := hB55.ext hx61
  have hB68 := hB51.ext hx61
  have hE69 : Below w0.heap.size w0 w59 := hx61.e hE56 (Nat.le_refl _)
  have hz70 := hE69.le
  have hs71 := hx61.size
  refine st_q (v := .agg #[.string ((ByteArray.mk #[112, 97, 121])), .int .i64 ((2 : Nat) : Int), .slice ((some ⟨w47.heap.size, 0, none⟩)) 4 4]) (x_build (fun _ => by kernel_rfl)) ?_
  refine st_s (e_st (v := .agg #[.string ((ByteArray.mk #[112, 97, 121])), .int .i64 ((2 : Nat) : Int), .slice ((some ⟨w47.heap.size, 0, none⟩)) 4 4]) T.sz29 rfl rfl hB64 (by simp [Value.cells]) (by rfl) ?_)
  intro w72 hP73
  have hB74 : Blk w72.heap w0.heap.size [.string ((ByteArray.mk #[112, 97, 121])), .int .i64 ((2 : Nat) : Int), .slice ((some ⟨w47.heap.size, 0, none⟩)) 4 4] 29 := hP73.new
  have hs75 := hP73.size
  have hB76 := hB65.pt hP73 (by omega)
  have hB77 := hB66.pt hP73 (by omega)
  have hB78 := hB67.pt hP73 (by omega)
  have hB79 := hB68.pt hP73 (by omega)
  have hB80 := hB63.pt hP73 (by omega)
  have hE81 : Below w0.heap.size w0 w72 := hP73.below hE69 (by omega)
  have hz82 := hE81.le
  refine st_nil ?_
  refine kn14 _ _ ?_
  refine ret ?_
  refine leaveC (P := Tryd.prog) (fn := Tryd.f32) (t := 0) (T := 29) (b := w0.heap.size) (o := 0) (cs := [.string ((ByteArray.mk #[112, 97, 121])), .int .i64 ((2 : Nat) : Int), .slice ((some ⟨w47.heap.size, 0, none⟩)) 4 4]) rfl T.ag29 rfl (hB74.cells 0 [.string ((ByteArray.mk #[112, 97, 121])), .int .i64 ((2 : Nat) : Int), .slice ((some ⟨w47.heap.size, 0, none⟩)) 4 4] (cells_at rfl)) ?_
  refine ⟨_, [((some ⟨w5.heap.size, 0, none⟩, 2), [tA, t3]), ((some ⟨w17.heap.size, 0, none⟩, 2), [tA, t5]), ((some ⟨w26.heap.size, 0, none⟩, 2), [tB, tM]), ((some ⟨w36.heap.size, 0, none⟩, 2), [tB, tX])], rfl, hE81, hB80.src1 (k := 1) (m := 4) rfl (by omega), fun x hx => ?_, rfl⟩
  simp only [List.mem_cons, List.not_mem_nil, or_false] at hx
  rcases hx with rfl | rfl | rfl | rfl
  · exact hB76.src1 (k := 1) (m := 2) rfl (by omega)
  · exact hB77.src1 (k := 1) (m := 2) rfl (by omega)
  · exact hB78.src1 (k := 1) (m := 2) rfl (by omega)
  · exact hB79.src1 (k := 1) (m := 2) rfl (by omega)

theorem pay_size {L : List Row} (h : tp L = payT) : SizeL L ∧ L.length = 4 := by
  have hp : ∀ t ∈ payT, ∀ s ∈ t, s.size ≤ maxLen := by decide +kernel
  refine ⟨fun x hx s hs => hp x.2 (h ▸ List.mem_map_of_mem hx) s hs, ?_⟩
  have := congrArg List.length h
  rwa [tp_len] at this
theorem pay_right : RightR 2 payT ∧ ColsOK 2 [0] := by decide +kernel
theorem pay_col : rightB 2 payT [((1 : Nat) : Int)] := by decide +kernel
theorem pay_bad : ¬ (RightR 2 payT ∧ ColsOK 2 [2]) := by decide +kernel
set_option maxHeartbeats 4000000 in
theorem known11  (w0 : World) (hT : Laid w0) : Calls Tryd.prog 11 #[] w0 fun e w' => e = .returned (.bool true) ∧ Ext w0 w' := by
  have hE0 : Below w0.heap.size w0 w0 := Below.refl _ _
  have hz0 := hE0.le
  refine enter Tryd.func11 rfl 100 Tryd.ntmps11 rfl ?_
  refine seqK fun Q1 kn2 kr3 ke4 => ?_
  refine region ?_
  refine st_q (v := .bool false) (x_assign rfl) ?_
  refine st_nil ?_
  refine kn2 _ _ ?_
  refine seqK fun Q5 kn6 kr7 ke8 => ?_
  refine region ?_
  refine st_c (t_call [] T.cf32 rfl rfl) (pay32 _) ?_
  rintro _ w9 ⟨va1, L1, rfl, hx10, hS1, hR1, hP1⟩
  refine ⟨_, rfl, ?_⟩
  have hE11 : Below w0.heap.size w0 w9 := hx10.e hE0 (Nat.le_refl _)
  have hz12 := hE11.le
  have hs13 := hx10.size
  obtain ⟨hz1, hl1⟩ := pay_size hP1
  refine st_e (e_buildSlice (cs := [.int .i64 ((0 : Nat) : Int)]) (e := 3) (fun _ => by kernel_rfl) ?_)
  intro w14 hA15
  have hx16 := hA15.ext
  have hs17 := hA15.size
  have hB18 : Blk w14.heap w9.heap.size [.int .i64 ((0 : Nat) : Int)] 3 := hA15.new
  have hF19 := hS1.ext hx16
  have hF20 := hR1.ext hx16
  have hE21 : Below w0.heap.size w0 w14 := hx16.e hE11 (Nat.le_refl _)
  have hz22 := hE21.le
  have hs23 := hx16.size
  refine st_c (t_call [.agg #[.string ((ByteArray.mk #[112, 97, 121])), .int .i64 ((2 : Nat) : Int), va1], .int .i64 ((1 : Nat) : Int), .slice ((some ⟨w9.heap.size, 0, none⟩)) 1 1] T.cf15 rfl rfl) (sums15 (ByteArray.mk #[112, 97, 121]) 2 L1 _ [0] _ 1 _ (by rw [hl1]; exact hF19) hF20 (hB18.src1 (k := 1) (m := 1) rfl (by omega)) (by decide) (by rw [hP1]; exact pay_right) (by omega) (by decide) hz1 (hT.below hE21)) ?_
  rintro _ w24 ⟨vg, A, GL, rfl, hx25, hOg, _, hAg, hGl, hfl, _⟩
  refine ⟨_, rfl, ?_⟩
  have hB26 := hB18.ext hx25
  have hF27 := hF19.ext hx25
  have hF28 := hF20.ext hx25
  have hE29 : Below w0.heap.size w0 w24 := hx25.e hE21 (Nat.le_refl _)
  have hz30 := hE29.le
  have hs31 := hx25.size
  rw [hP1, show ([0] : List Int) = [(0 : Int)] from rfl, pay_grp] at hAg
  obtain ⟨hA2, hm0, hm1⟩ := grp_two hAg
  rw [hA2] at hOg hGl hfl
  have hf0 := hfl 0 (by omega)
  have hf1 := hfl 1 (by omega)
  rw [hm0, pay_n1] at hf0
  rw [hm1, pay_n2] at hf1
  obtain ⟨hk1, hk2, hk3⟩ := pay_fill1 hf0 rfl rfl
  obtain ⟨hk4, hk5⟩ := pay_fill2 hf1
  obtain ⟨aG, cG, rfl, hcG, hcG1⟩ := hOg.src.form
  refine st_q (v := .tuple #[.slice aG 2 cG, .int .i64 ((0 : Nat) : Int)]) (x_move rfl) ?_
  refine st_q (v := .slice aG 2 cG) (x_extract rfl rfl) ?_
  refine st_q (v := .int .i64 ((0 : Nat) : Int)) (x_extract rfl rfl) ?_
  refine st_q (v := .slice aG 2 cG) (x_assign rfl) ?_
  refine st_q (v := .int .i64 ((0 : Nat) : Int)) (x_assign rfl) ?_
  refine st_nil ?_
  refine kn6 _ _ ?_
  refine seqK fun Q32 kn33 kr34 ke35 => ?_
  refine region ?_
  refine st_c (t_call [] T.cf32 rfl rfl) (pay32 _) ?_
  rintro _ w36 ⟨va2, L2, rfl, hx37, hS2, hR2, hP2⟩
  refine ⟨_, rfl, ?_⟩
  have hB38 := hB26.ext hx37
  have hF39 := hF27.ext hx37
  have hF40 := hF28.ext hx37
  have hF41 := hOg.ext hx37
  have hE42 : Below w0.heap.size w0 w36 := hx37.e hE29 (Nat.le_refl _)
  have hz43 := hE42.le
  have hs44 := hx37.size
  obtain ⟨hz2, hl2⟩ := pay_size hP2
  refine st_e (e_buildSlice (cs := [.int .i64 ((2 : Nat) : Int)]) (e := 3) (fun _ => by kernel_rfl) ?_)
  intro w45 hA46
  have hx47 := hA46.ext
  have hs48 := hA46.size
  have hB49 : Blk w45.heap w36.heap.size [.int .i64 ((2 : Nat) : Int)] 3 := hA46.new
  have hB50 := hB38.ext hx47
  have hF51 := hF39.ext hx47
  have hF52 := hF40.ext hx47
  have hF53 := hF41.ext hx47
  have hF54 := hS2.ext hx47
  have hF55 := hR2.ext hx47
  have hE56 : Below w0.heap.size w0 w45 := hx47.e hE42 (Nat.le_refl _)
  have hz57 := hE56.le
  have hs58 := hx47.size
  refine st_c (t_call [.agg #[.string ((ByteArray.mk #[112, 97, 121])), .int .i64 ((2 : Nat) : Int), va2], .slice ((some ⟨w36.heap.size, 0, none⟩)) 1 1] T.cf13 rfl rfl) (groups13e (ByteArray.mk #[112, 97, 121]) 2 L2 _ [2] _ _ (by rw [hl2]; exact hF54) hF55 (hB49.src1 (k := 1) (m := 1) rfl (by omega)) (by decide) (by rw [hP2]; exact pay_bad)) ?_
  rintro _ w59 ⟨rfl, hx60⟩
  refine ⟨_, rfl, ?_⟩
  have hB61 := hB50.ext hx60
  have hB62 := hB49.ext hx60
  have hF63 := hF51.ext hx60
  have hF64 := hF52.ext hx60
  have hF65 := hF53.ext hx60
  have hF66 := hF54.ext hx60
  have hF67 := hF55.ext hx60
  have hE68 : Below w0.heap.size w0 w59 := hx60.e hE56 (Nat.le_refl _)
  have hz69 := hE68.le
  have hs70 := hx60.size
  refine st_q (v := .tuple #[.slice none 0 0, .int .i64 ((2 : Nat) : Int)]) (x_move rfl) ?_
  refine st_q (v := .slice none 0 0) (x_extract rfl rfl) ?_
  refine st_q (v := .int .i64 ((2 : Nat) : Int)) (x_extract rfl rfl) ?_
  refine st_q (v := .slice none 0 0) (x_assign rfl) ?_
  refine st_q (v := .int .i64 ((2 : Nat) : Int)) (x_assign rfl) ?_
  refine st_nil ?_
  refine kn33 _ _ ?_
  refine seqK fun Q71 kn72 kr73 ke74 => ?_
  refine region ?_
  refine st_c (t_call [] T.cf32 rfl rfl) (pay32 _) ?_
  rintro _ w75 ⟨va3, L3, rfl, hx76, hS3, hR3, hP3⟩
  refine ⟨_, rfl, ?_⟩
  have hB77 := hB61.ext hx76
  have hB78 := hB62.ext hx76
  have hF79 := hF63.ext hx76
  have hF80 := hF64.ext hx76
  have hF81 := hF65.ext hx76
  have hF82 := hF66.ext hx76
  have hF83 := hF67.ext hx76
  have hE84 : Below w0.heap.size w0 w75 := hx76.e hE68 (Nat.le_refl _)
  have hz85 := hE84.le
  have hs86 := hx76.size
  obtain ⟨hz3, hl3⟩ := pay_size hP3
  refine st_c (t_call [.agg #[.string ((ByteArray.mk #[112, 97, 121])), .int .i64 ((2 : Nat) : Int), va3], .int .i64 ((1 : Nat) : Int)] T.cf19 rfl rfl) (rank19 (ByteArray.mk #[112, 97, 121]) 2 L3 _ 1 _ (by rw [hl3]; exact hS3) hR3 (by rw [hP3]; exact pay_col) (by omega) hz3 (hT.below hE84)) ?_
  rintro _ w87 ⟨vr, rfl, hx88, hO89⟩
  refine ⟨_, rfl, ?_⟩
  have hB90 := hB77.ext hx88
  have hB91 := hB78.ext hx88
  have hF92 := hF79.ext hx88
  have hF93 := hF80.ext hx88
  have hF94 := hF81.ext hx88
  have hF95 := hF82.ext hx88
  have hF96 := hF83.ext hx88
  have hF97 := hS3.ext hx88
  have hF98 := hR3.ext hx88
  have hE99 : Below w0.heap.size w0 w87 := hx88.e hE84 (Nat.le_refl _)
  have hz100 := hE99.le
  have hs101 := hx88.size
  rw [hP3, pay_rank] at hO89
  obtain ⟨aK, cK, rfl, hcK, hcK1⟩ := hO89.src.form
  refine st_q (v := .tuple #[.slice aK 4 cK, .int .i64 ((0 : Nat) : Int)]) (x_move rfl) ?_
  refine st_q (v := .slice aK 4 cK) (x_extract rfl rfl) ?_
  refine st_q (v := .int .i64 ((0 : Nat) : Int)) (x_extract rfl rfl) ?_
  refine st_q (v := .slice aK 4 cK) (x_assign rfl) ?_
  refine st_q (v := .int .i64 ((0 : Nat) : Int)) (x_assign rfl) ?_
  refine st_nil ?_
  refine kn72 _ _ ?_
  refine seqK fun Q102 kn103 kr104 ke105 => ?_
  refine region ?_
  refine st_c (t_call [.string ((ByteArray.mk #[49, 46, 53]))] T.cf9 rfl rfl) (number9s (ByteArray.mk #[49, 46, 53]) 4609434218613702656 _ num15 (by decide) (hT.below hE99)) ?_
  rintro _ w106 ⟨rfl, hx107⟩
  refine ⟨_, rfl, ?_⟩
  have hB108 := hB90.ext hx107
  have hB109 := hB91.ext hx107
  have hF110 := hF92.ext hx107
  have hF111 := hF93.ext hx107
  have hF112 := hF94.ext hx107
  have hF113 := hF95.ext hx107
  have hF114 := hF96.ext hx107
  have hF115 := hF97.ext hx107
  have hF116 := hF98.ext hx107
  have hF117 := hO89.ext hx107
  have hE118 : Below w0.heap.size w0 w106 := hx107.e hE99 (Nat.le_refl _)
  have hz119 := hE118.le
  have hs120 := hx107.size
  refine st_q (v := .tuple #[.float .f64 4609434218613702656, .bool true]) (x_move rfl) ?_
  refine st_q (v := .float .f64 4609434218613702656) (x_extract rfl rfl) ?_
  refine st_q (v := .bool true) (x_extract rfl rfl) ?_
  refine st_q (v := .float .f64 4609434218613702656) (x_assign rfl) ?_
  refine st_q (v := .bool true) (x_assign rfl) ?_
  refine st_nil ?_
  refine kn103 _ _ ?_
  refine seqK fun Q121 kn122 kr123 ke124 => ?_
  refine region ?_
  refine st_q (v := .int .i64 ((0 : Nat) : Int)) (x_move rfl) ?_
  refine st_c (t_call [.int .i64 ((0 : Nat) : Int)] T.cf16 rfl rfl) (num16 0 _) ?_
  rintro _ _ ⟨rfl, rfl⟩
  refine ⟨_, rfl, ?_⟩
  refine st_q (v := .bool (decide (0 = 0))) (x_eqlN rfl rfl) ?_
  refine st_if (p := 0 = 0) (x_move rfl) (fun h125 => ?_) (fun h125 => ?_)
  ·
   refine st_gq 3 33 rfl rfl (by decide) ?_
   refine st_q (v := .slice aG 2 cG) (x_move rfl) ?_
   refine st_gq 3 33 rfl rfl (by decide) ?_
   refine st_q (v := .int .i64 ((2 : Nat) : Int)) (x_lenSl rfl Tryd.underlying32 rfl) ?_
   refine st_gq 3 33 rfl rfl (by decide) ?_
   refine st_q (v := .bool (decide (2 = 2))) (x_eqlN rfl rfl) ?_
   refine st_q (v := .bool (decide (2 = 2))) (x_pickT rfl rfl) ?_
   refine st_if (p := 2 = 2) (x_move rfl) (fun h126 => ?_) (fun h126 => ?_)
   ·
    refine st_gq 8 38 rfl rfl (by decide) ?_
    refine st_q (v := .slice aG 2 cG) (x_move rfl) ?_
    refine st_gq 8 38 rfl rfl (by decide) ?_
    obtain ⟨b127, o128, ha129, hc130⟩ := hF112.src.at (by omega)
    refine st_q (v := .pointer (some ⟨b127, o128 + 0 * 8, none⟩)) (x_index' T.sl32 rfl ha129 rfl (by omega)) ?_
    refine st_gq 8 38 rfl rfl (by decide) ?_
    refine st_q (v := .pointer (some ⟨b127, o128 + 0 * 8 + 3, none⟩)) (x_field (o := o128 + 0 * 8) T.fa44_3 rfl) ?_
    refine st_gq 8 38 rfl rfl (by decide) ?_
    refine st_q (v := .float .f64 ((el GL 0).sum)) (x_load1 T.na22 rfl ((hc130.elem enG_len (i := 0) (by omega)).fld 3 rfl)) ?_
    refine st_gq 8 38 rfl rfl (by decide) ?_
    refine st_q (v := .bool (decide (Flt.D.order ((el GL 0).sum) 4620693217682128896 = some .eq))) (x_eqlF rfl rfl) ?_
    refine st_q (v := .bool (decide (Flt.D.order ((el GL 0).sum) 4620693217682128896 = some .eq))) (x_pickT rfl rfl) ?_
    refine st_if (p := Flt.D.order ((el GL 0).sum) 4620693217682128896 = some .eq) (x_move rfl) (fun h131 => ?_) (fun h131 => ?_)
    ·
     refine st_gq 15 45 rfl rfl (by decide) ?_
     refine st_q (v := .slice aG 2 cG) (x_move rfl) ?_
     refine st_gq 15 45 rfl rfl (by decide) ?_
     obtain ⟨b132, o133, ha134, hc135⟩ := hF112.src.at (by omega)
     refine st_q (v := .pointer (some ⟨b132, o133 + 0 * 8, none⟩)) (x_index' T.sl32 rfl ha134 rfl (by omega)) ?_
     refine st_gq 15 45 rfl rfl (by decide) ?_
     refine st_q (v := .pointer (some ⟨b132, o133 + 0 * 8 + 4, none⟩)) (x_field (o := o133 + 0 * 8) T.fa44_4 rfl) ?_
     refine st_gq 15 45 rfl rfl (by decide) ?_
     refine st_q (v := .float .f64 ((el GL 0).mean)) (x_load1 T.na22 rfl ((hc135.elem enG_len (i := 0) (by omega)).fld 4 rfl)) ?_
     refine st_gq 15 45 rfl rfl (by decide) ?_
     refine st_q (v := .bool (decide (Flt.D.order ((el GL 0).mean) 4616189618054758400 = some .eq))) (x_eqlF rfl rfl) ?_
     refine st_q (v := .bool (decide (Flt.D.order ((el GL 0).mean) 4616189618054758400 = some .eq))) (x_pickT rfl rfl) ?_
     refine st_if (p := Flt.D.order ((el GL 0).mean) 4616189618054758400 = some .eq) (x_move rfl) (fun h136 => ?_) (fun h136 => ?_)
     ·
      refine st_gq 22 52 rfl rfl (by decide) ?_
      refine st_q (v := .slice aG 2 cG) (x_move rfl) ?_
      refine st_gq 22 52 rfl rfl (by decide) ?_
      obtain ⟨b137, o138, ha139, hc140⟩ := hF112.src.at (by omega)
      refine st_q (v := .pointer (some ⟨b137, o138 + 0 * 8, none⟩)) (x_index' T.sl32 rfl ha139 rfl (by omega)) ?_
      refine st_gq 22 52 rfl rfl (by decide) ?_
      refine st_q (v := .pointer (some ⟨b137, o138 + 0 * 8 + 5, none⟩)) (x_field (o := o138 + 0 * 8) T.fa44_5 rfl) ?_
      refine st_gq 22 52 rfl rfl (by decide) ?_
      refine st_q (v := .float .f64 ((el GL 0).spread)) (x_load1 T.na22 rfl ((hc140.elem enG_len (i := 0) (by omega)).fld 5 rfl)) ?_
      refine st_gq 22 52 rfl rfl (by decide) ?_
      refine st_q (v := .bool (decide (Flt.D.order ((el GL 0).spread) 4607182418800017408 = some .eq))) (x_eqlF rfl rfl) ?_
      refine st_q (v := .bool (decide (Flt.D.order ((el GL 0).spread) 4607182418800017408 = some .eq))) (x_pickT rfl rfl) ?_
      refine st_if (p := Flt.D.order ((el GL 0).spread) 4607182418800017408 = some .eq) (x_move rfl) (fun h141 => ?_) (fun h141 => ?_)
      ·
       refine st_gq 29 59 rfl rfl (by decide) ?_
       refine st_q (v := .slice aG 2 cG) (x_move rfl) ?_
       refine st_gq 29 59 rfl rfl (by decide) ?_
       obtain ⟨b142, o143, ha144, hc145⟩ := hF112.src.at (by omega)
       refine st_q (v := .pointer (some ⟨b142, o143 + 1 * 8, none⟩)) (x_index' T.sl32 rfl ha144 rfl (by omega)) ?_
       refine st_gq 29 59 rfl rfl (by decide) ?_
       refine st_q (v := .pointer (some ⟨b142, o143 + 1 * 8 + 2, none⟩)) (x_field (o := o143 + 1 * 8) T.fa44_2 rfl) ?_
       refine st_gq 29 59 rfl rfl (by decide) ?_
       refine st_q (v := .int .i64 ((el GL 1).numbers)) (x_load1 T.na3 rfl ((hc145.elem enG_len (i := 1) (by omega)).fld 2 rfl)) ?_
       refine st_gq 29 59 rfl rfl (by decide) ?_
       refine st_q (v := .bool (decide (((el GL 1).numbers) = 1))) (x_eql rfl rfl) ?_
       refine st_q (v := .bool (decide (((el GL 1).numbers) = 1))) (x_pickT rfl rfl) ?_
       refine st_if (p := ((el GL 1).numbers) = 1) (x_move rfl) (fun h146 => ?_) (fun h146 => ?_)
       ·
        refine st_gq 36 66 rfl rfl (by decide) ?_
        refine st_q (v := .slice aG 2 cG) (x_move rfl) ?_
        refine st_gq 36 66 rfl rfl (by decide) ?_
        obtain ⟨b147, o148, ha149, hc150⟩ := hF112.src.at (by omega)
        refine st_q (v := .pointer (some ⟨b147, o148 + 1 * 8, none⟩)) (x_index' T.sl32 rfl ha149 rfl (by omega)) ?_
        refine st_gq 36 66 rfl rfl (by decide) ?_
        refine st_q (v := .pointer (some ⟨b147, o148 + 1 * 8 + 6, none⟩)) (x_field (o := o148 + 1 * 8) T.fa44_6 rfl) ?_
        refine st_gq 36 66 rfl rfl (by decide) ?_
        refine st_q (v := .float .f64 ((el GL 1).least)) (x_load1 T.na22 rfl ((hc150.elem enG_len (i := 1) (by omega)).fld 6 rfl)) ?_
        refine st_gq 36 66 rfl rfl (by decide) ?_
        refine st_q (v := .bool (decide (Flt.D.order ((el GL 1).least) 13826050856027422720 = some .eq))) (x_eqlF rfl rfl) ?_
        refine st_q (v := .bool (decide (Flt.D.order ((el GL 1).least) 13826050856027422720 = some .eq))) (x_pickT rfl rfl) ?_
        refine st_if (p := Flt.D.order ((el GL 1).least) 13826050856027422720 = some .eq) (x_move rfl) (fun h151 => ?_) (fun h151 => ?_)
        ·
         refine st_gq 43 73 rfl rfl (by decide) ?_
         refine st_q (v := .slice none 0 0) (x_move rfl) ?_
         refine st_gq 43 73 rfl rfl (by decide) ?_
         refine st_q (v := .int .i64 ((0 : Nat) : Int)) (x_lenSl rfl Tryd.underlying32 rfl) ?_
         refine st_gq 43 73 rfl rfl (by decide) ?_
         refine st_q (v := .bool (decide (0 = 0))) (x_eqlN rfl rfl) ?_
         refine st_q (v := .bool (decide (0 = 0))) (x_pickT rfl rfl) ?_
         refine st_if (p := 0 = 0) (x_move rfl) (fun h152 => ?_) (fun h152 => ?_)
         ·
          refine st_gq 48 78 rfl rfl (by decide) ?_
          refine st_q (v := .int .i64 ((2 : Nat) : Int)) (x_move rfl) ?_
          refine st_gq 48 78 rfl rfl (by decide) ?_
          refine st_c (t_call [.int .i64 ((2 : Nat) : Int)] T.cf16 rfl rfl) (num16 2 _) ?_
          rintro _ _ ⟨rfl, rfl⟩
          refine ⟨_, rfl, ?_⟩
          refine st_gq 48 78 rfl rfl (by decide) ?_
          refine st_q (v := .bool (decide (2 = 2))) (x_eqlN rfl rfl) ?_
          refine st_q (v := .bool (decide (2 = 2))) (x_pickT rfl rfl) ?_
          refine st_if (p := 2 = 2) (x_move rfl) (fun h153 => ?_) (fun h153 => ?_)
          ·
           refine st_gq 53 83 rfl rfl (by decide) ?_
           refine st_q (v := .slice aK 4 cK) (x_move rfl) ?_
           refine st_gq 53 83 rfl rfl (by decide) ?_
           refine st_e (e_buildSlice (cs := [.string ((ByteArray.mk #[45, 48, 46, 53])), .string ((ByteArray.mk #[51])), .string ((ByteArray.mk #[53])), .string ((ByteArray.mk #[120]))]) (e := 9) (fun _ => by kernel_rfl) ?_)
           intro w154 hA155
           have hx156 := hA155.ext
           have hs157 := hA155.size
           have hB158 : Blk w154.heap w106.heap.size [.string ((ByteArray.mk #[45, 48, 46, 53])), .string ((ByteArray.mk #[51])), .string ((ByteArray.mk #[53])), .string ((ByteArray.mk #[120]))] 9 := hA155.new
           have hB159 := hB108.ext hx156
           have hB160 := hB109.ext hx156
           have hF161 := hF110.ext hx156
           have hF162 := hF111.ext hx156
           have hF163 := hF112.ext hx156
           have hF164 := hF113.ext hx156
           have hF165 := hF114.ext hx156
           have hF166 := hF115.ext hx156
           have hF167 := hF116.ext hx156
           have hF168 := hF117.ext hx156
           have hF169 := hc130.ext hx156
           have hF170 := hc135.ext hx156
           have hF171 := hc140.ext hx156
           have hF172 := hc145.ext hx156
           have hF173 := hc150.ext hx156
           have hE174 : Below w0.heap.size w0 w154 := hx156.e hE118 (Nat.le_refl _)
           have hz175 := hE174.le
           have hs176 := hx156.size
           refine st_gq 53 83 rfl rfl (by decide) ?_
           refine st_c (t_call [.slice aK 4 cK, .slice ((some ⟨w106.heap.size, 0, none⟩)) 4 4] T.cf21 rfl rfl) (same21 [tM, t3, t5, tX] [tM, t3, t5, tX] _ _ _ hF168.src (hB158.src1 (k := 1) (m := 4) rfl (by omega))) ?_
           rintro _ w177 ⟨rfl, hx178⟩
           refine ⟨_, rfl, ?_⟩
           have hB179 := hB159.ext hx178
           have hB180 := hB160.ext hx178
           have hB181 := hB158.ext hx178
           have hF182 := hF161.ext hx178
           have hF183 := hF162.ext hx178
           have hF184 := hF163.ext hx178
           have hF185 := hF164.ext hx178
           have hF186 := hF165.ext hx178
           have hF187 := hF166.ext hx178
           have hF188 := hF167.ext hx178
           have hF189 := hF168.ext hx178
           have hF190 := hF169.ext hx178
           have hF191 := hF170.ext hx178
           have hF192 := hF171.ext hx178
           have hF193 := hF172.ext hx178
           have hF194 := hF173.ext hx178
           have hE195 : Below w0.heap.size w0 w177 := hx178.e hE174 (Nat.le_refl _)
           have hz196 := hE195.le
           have hs197 := hx178.size
           refine st_q (v := .bool (decide ([tM, t3, t5, tX] = [tM, t3, t5, tX]))) (x_pickT rfl rfl) ?_
           refine st_if (p := [tM, t3, t5, tX] = [tM, t3, t5, tX]) (x_move rfl) (fun h198 => ?_) (fun h198 => ?_)
           ·
            refine st_gq 58 88 rfl rfl (by decide) ?_
            refine st_q (v := .int .i64 ((0 : Nat) : Int)) (x_move rfl) ?_
            refine st_gq 58 88 rfl rfl (by decide) ?_
            refine st_c (t_call [.int .i64 ((0 : Nat) : Int)] T.cf16 rfl rfl) (num16 0 _) ?_
            rintro _ _ ⟨rfl, rfl⟩
            refine ⟨_, rfl, ?_⟩
            refine st_gq 58 88 rfl rfl (by decide) ?_
            refine st_q (v := .bool (decide (0 = 0))) (x_eqlN rfl rfl) ?_
            refine st_q (v := .bool (decide (0 = 0))) (x_pickT rfl rfl) ?_
            refine st_if (p := 0 = 0) (x_move rfl) (fun h199 => ?_) (fun h199 => ?_)
            ·
             refine st_gq 63 93 rfl rfl (by decide) ?_
             refine st_q (v := .float .f64 4609434218613702656) (x_move rfl) ?_
             refine st_gq 63 93 rfl rfl (by decide) ?_
             refine st_q (v := .bool (decide (Flt.D.order 4609434218613702656 4609434218613702656 = some .eq))) (x_eqlF rfl rfl) ?_
             refine st_q (v := .bool (decide (Flt.D.order 4609434218613702656 4609434218613702656 = some .eq))) (x_pickT rfl rfl) ?_
             refine st_if (p := Flt.D.order 4609434218613702656 4609434218613702656 = some .eq) (x_move rfl) (fun h200 => ?_) (fun h200 => ?_)
             ·
              refine st_gq 67 97 rfl rfl (by decide) ?_
              refine st_q (v := .bool true) (x_move rfl) ?_
              refine st_q (v := .bool true) (x_pickT rfl rfl) ?_
              refine st_q (v := .bool true) (x_assign rfl) ?_
              refine st_nil ?_
              refine kn122 _ _ ?_
              refine ret ?_
              refine leave1 (P := Tryd.prog) (fn := Tryd.f11) (t := 0) (v := .bool true) rfl rfl ?_
              exact ⟨rfl, hE195⟩
             ·
              exact absurd h200 (not_not_intro (by kernel_rfl))
            ·
             exact absurd h199 (not_not_intro rfl)
           ·
            exact absurd h198 (not_not_intro rfl)
          ·
           exact absurd h153 (not_not_intro rfl)
         ·
          exact absurd h152 (not_not_intro rfl)
        ·
         exact absurd h151 (not_not_intro (by rw [hk5]; kernel_rfl))
       ·
        exact absurd h146 (not_not_intro hk4)
      ·
       exact absurd h141 (not_not_intro (by rw [hk3]; kernel_rfl))
     ·
      exact absurd h136 (not_not_intro (by rw [hk2]; kernel_rfl))
    ·
     exact absurd h131 (not_not_intro (by rw [hk1]; kernel_rfl))
   ·
    exact absurd h126 (not_not_intro rfl)
  ·
   exact absurd h125 (not_not_intro rfl)

end Go.Proofs.YtegpcbckiehleaaDoor
