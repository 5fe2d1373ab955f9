import Derived.Test.YtegpcbckiehleaaDoorS22
namespace Go.Proofs.YtegpcbckiehleaaDoor
open Go.RowKit Go.Eng Go.OrdPure Go.Flt
theorem T.zv57 : ZV Tryd.prog 57 (.agg #[.int .i64 ((0 : Nat) : Int), .float .f64 0, .float .f64 0, .float .f64 0]) := fun _ => by kernel_rfl
theorem T.sz57 : SZ Tryd.prog 57 4 := fun _ => by kernel_rfl
theorem T.ag57 : AG Tryd.prog 57 4 := fun _ => ⟨by kernel_rfl, by kernel_rfl⟩
theorem T.cf47 : CF Tryd.prog 47 := fun _ _ => by kernel_rfl
theorem T.na62 : NA Tryd.prog 62 := fun _ => by kernel_rfl
theorem T.fa57_1 : FA Tryd.prog 57 1 1 := fun _ _ => by kernel_rfl
theorem T.fa57_2 : FA Tryd.prog 57 2 2 := fun _ _ => by kernel_rfl
theorem T.fa57_3 : FA Tryd.prog 57 3 3 := fun _ _ => by kernel_rfl
theorem T.cf48 : CF Tryd.prog 48 := fun _ _ => by kernel_rfl

theorem right_two {ar : Int} {P : List Tup} {c d : Nat} (hG : RightR ar P) (hC : badC ar ((c : Nat) : Int) = false) (hD : badC ar ((d : Nat) : Int) = false) : rightB ar P [((c : Nat) : Int), ((d : Nat) : Int)] :=
  ⟨hG, fun i hi => by
    have h2 : i < 2 := hi
    rcases (show i = 0 ∨ i = 1 by omega) with rfl | rfl
    · exact hC
    · exact hD⟩
theorem right_two' {ar c d : Int} {P : List Tup} (h : rightB ar P [c, d]) : RightR ar P ∧ badC ar c = false ∧ badC ar d = false := ⟨h.1, h.2 0 (by simp), h.2 1 (by simp)⟩
theorem colsOK_one {ar c : Int} : ColsOK ar [c] ↔ badC ar c = false := ⟨fun h => (h 0 (by simp)).1, fun h i hi => by
    have h2 : i < 1 := hi
    obtain rfl : i = 0 := by omega
    exact ⟨h, fun k hk => by omega⟩⟩
set_option maxHeartbeats 4000000 in
theorem fit24e (pr : ByteArray) (ar : Int) (L : List Row) (va : Value) (c d : Int) (w0 : World) (ha : Src w0.heap va L.length 1 (flat enR L)) (hL : RowsP w0.heap L) (hbad : ¬ rightB ar (tp L) [c, d]) : Calls Tryd.prog 24 #[.agg #[.string pr, .int .i64 ar, va], .int .i64 c, .int .i64 d] w0 fun e w' => e = .returned (.tuple #[.agg #[.int .i64 0, .float .f64 0, .float .f64 0, .float .f64 0], .int .i64 2]) ∧ Ext w0 w' := by
  have hE0 : Below w0.heap.size w0 w0 := Below.refl _ _
  have hz0 := hE0.le
  obtain ⟨a, ca, rfl, hca, hca1⟩ := ha.form
  refine enter Tryd.func24 rfl 120 Tryd.ntmps24 rfl ?_
  refine seqK fun Q1 kn2 kr3 ke4 => ?_
  refine region ?_
  refine st_e (e_box (v := .agg #[.string pr, .int .i64 ar, .slice a L.length ca]) rfl ?_)
  intro w5 hA6
  have hx7 := hA6.ext
  have hs8 := hA6.size
  have hB9 : Blk w5.heap w0.heap.size [.string pr, .int .i64 ar, .slice a L.length ca] 29 := hA6.new
  have hE10 : Below w0.heap.size w0 w5 := hx7.e hE0 (Nat.le_refl _)
  have hz11 := hE10.le
  have hs12 := hx7.size
  refine st_e (e_alloc T.zv57 ?_)
  intro w13 hA14
  have hx15 := hA14.ext
  have hs16 := hA14.size
  have hB17 : Blk w13.heap w5.heap.size [.int .i64 ((0 : Nat) : Int), .float .f64 0, .float .f64 0, .float .f64 0] 57 := hA14.new
  have hB18 := hB9.ext hx15
  have hE19 : Below w0.heap.size w0 w13 := hx15.e hE10 (Nat.le_refl _)
  have hz20 := hE19.le
  have hs21 := hx15.size
  refine st_q (v := .int .i64 ((0 : Nat) : Int)) (x_assign rfl) ?_
  refine st_nil ?_
  refine kn2 _ _ ?_
  refine seqK fun Q22 kn23 kr24 ke25 => ?_
  refine seqK fun Q26 kn27 kr28 ke29 => ?_
  refine region ?_
  refine st_q (v := .agg #[.string pr, .int .i64 ar, .slice a L.length ca]) (x_loadA [.string pr, .int .i64 ar, .slice a L.length ca] T.ag29 rfl (hB18.cells 0 [.string pr, .int .i64 ar, .slice a L.length ca] (cells_at rfl))) ?_
  refine st_q (v := .int .i64 c) (x_move rfl) ?_
  refine st_q (v := .int .i64 d) (x_move rfl) ?_
  refine st_e (e_buildSlice (cs := [.int .i64 c, .int .i64 d]) (e := 3) (fun _ => by kernel_rfl) ?_)
  intro w30 hA31
  have hx32 := hA31.ext
  have hs33 := hA31.size
  have hB34 : Blk w30.heap w13.heap.size [.int .i64 c, .int .i64 d] 3 := hA31.new
  have hB35 := hB18.ext hx32
  have hB36 := hB17.ext hx32
  have hE37 : Below w0.heap.size w0 w30 := hx32.e hE19 (Nat.le_refl _)
  have hz38 := hE37.le
  have hs39 := hx32.size
  refine st_c (t_call [.agg #[.string pr, .int .i64 ar, .slice a L.length ca], .slice ((some ⟨w13.heap.size, 0, none⟩)) 2 2] T.cf39 rfl rfl) (right39 pr ar L _ [c, d] _ _ (ha.below hE37) (RowsP.below hL hE37) (hB34.src1 (k := 1) (m := 2) rfl (by omega))) ?_
  rintro _ w40 ⟨rfl, hx41⟩
  refine ⟨_, rfl, ?_⟩
  have hB42 := hB35.ext hx41
  have hB43 := hB36.ext hx41
  have hB44 := hB34.ext hx41
  have hE45 : Below w0.heap.size w0 w40 := hx41.e hE37 (Nat.le_refl _)
  have hz46 := hE45.le
  have hs47 := hx41.size
  refine st_q (v := .bool (decide (¬ (rightB ar (tp L) [c, d])))) (x_notP rfl) ?_
  refine st_nil ?_
  refine kn27 _ _ ?_
  refine cnd (p := ¬ (rightB ar (tp L) [c, d])) rfl (fun h48 => ?_) (fun h48 => ?_)
  ·
   refine seqK fun Q49 kn50 kr51 ke52 => ?_
   refine region ?_
   refine st_q (v := .agg #[.int .i64 ((0 : Nat) : Int), .float .f64 0, .float .f64 0, .float .f64 0]) (x_build (fun _ => by kernel_rfl)) ?_
   refine st_s (e_st (v := .agg #[.int .i64 ((0 : Nat) : Int), .float .f64 0, .float .f64 0, .float .f64 0]) T.sz57 rfl rfl hB43 (by simp [Value.cells]) (by rfl) ?_)
   intro w53 hP54
   have hB55 : Blk w53.heap w5.heap.size [.int .i64 ((0 : Nat) : Int), .float .f64 0, .float .f64 0, .float .f64 0] 57 := hP54.new
   have hs56 := hP54.size
   have hB57 := hB42.gk (hP54.grownBy) (hB43.rowk) (by decide)
   have hB58 := hB44.gk (hP54.grownBy) (hB43.rowk) (by decide)
   have hE59 : Below w0.heap.size w0 w53 := hP54.below hE45 (by omega)
   have hz60 := hE59.le
   refine st_q (v := .int .i64 ((2 : Nat) : Int)) (x_assign rfl) ?_
   refine st_nil ?_
   refine kn50 _ _ ?_
   refine ret ?_
   refine kr24 _ _ ?_
   refine leaveCT (P := Tryd.prog) (fn := Tryd.f24) (t := 6) (u := 7) (T := 57) (b := w5.heap.size) (o := 0) (cs := [.int .i64 ((0 : Nat) : Int), .float .f64 0, .float .f64 0, .float .f64 0]) (v := .int .i64 ((2 : Nat) : Int)) rfl T.ag57 rfl (hB55.cells 0 [.int .i64 ((0 : Nat) : Int), .float .f64 0, .float .f64 0, .float .f64 0] (cells_at rfl)) rfl ?_
   exact ⟨rfl, hE59⟩
  ·
   exact absurd h48 (not_not_intro hbad)

set_option maxHeartbeats 4000000 in
theorem fit24 (pr : ByteArray) (ar : Int) (L : List Row) (va : Value) (c d : Nat) (w0 : World) (ha : Src w0.heap va L.length 1 (flat enR L)) (hL : RowsP w0.heap L) (hG : RightR ar (tp L)) (hC : badC ar ((c : Nat) : Int) = false) (hD : badC ar ((d : Nat) : Int) = false) (hn : L.length ≤ 1466015503701) (hsz : SizeL L) (hT : Laid w0) : Calls Tryd.prog 24 #[.agg #[.string pr, .int .i64 ar, va], .int .i64 ((c : Nat) : Int), .int .i64 ((d : Nat) : Int)] w0 fun e w' => ∃ sl st ft, e = .returned (.tuple #[.agg #[.int .i64 (((ptsL c d (setL (tp L))).length : Nat) : Int), .float .f64 sl, .float .f64 st, .float .f64 ft], .int .i64 0]) ∧ Ext w0 w' ∧ FitR (ptsL c d (setL (tp L))) sl st ft := by
  have hE0 : Below w0.heap.size w0 w0 := Below.refl _ _
  have hz0 := hE0.le
  obtain ⟨a, ca, rfl, hca, hca1⟩ := ha.form
  have hC2 : c < 16 ∧ ((c : Nat) : Int) < ar := by
    unfold badC at hC
    have h2 := of_decide_eq_false hC
    have := hG.2.2
    omega
  have hD2 : d < 16 ∧ ((d : Nat) : Int) < ar := by
    unfold badC at hD
    have h2 := of_decide_eq_false hD
    have := hG.2.2
    omega
  have hR2 := right_two hG hC hD
  refine enter Tryd.func24 rfl 120 Tryd.ntmps24 rfl ?_
  refine seqK fun Q1 kn2 kr3 ke4 => ?_
  refine region ?_
  refine st_e (e_box (v := .agg #[.string pr, .int .i64 ar, .slice a L.length ca]) rfl ?_)
  intro w5 hA6
  have hx7 := hA6.ext
  have hs8 := hA6.size
  have hB9 : Blk w5.heap w0.heap.size [.string pr, .int .i64 ar, .slice a L.length ca] 29 := hA6.new
  have hE10 : Below w0.heap.size w0 w5 := hx7.e hE0 (Nat.le_refl _)
  have hz11 := hE10.le
  have hs12 := hx7.size
  refine st_e (e_alloc T.zv57 ?_)
  intro w13 hA14
  have hx15 := hA14.ext
  have hs16 := hA14.size
  have hB17 : Blk w13.heap w5.heap.size [.int .i64 ((0 : Nat) : Int), .float .f64 0, .float .f64 0, .float .f64 0] 57 := hA14.new
  have hB18 := hB9.ext hx15
  have hE19 : Below w0.heap.size w0 w13 := hx15.e hE10 (Nat.le_refl _)
  have hz20 := hE19.le
  have hs21 := hx15.size
  refine st_q (v := .int .i64 ((0 : Nat) : Int)) (x_assign rfl) ?_
  refine st_nil ?_
  refine kn2 _ _ ?_
  refine seqK fun Q22 kn23 kr24 ke25 => ?_
  refine seqK fun Q26 kn27 kr28 ke29 => ?_
  refine region ?_
  refine st_q (v := .agg #[.string pr, .int .i64 ar, .slice a L.length ca]) (x_loadA [.string pr, .int .i64 ar, .slice a L.length ca] T.ag29 rfl (hB18.cells 0 [.string pr, .int .i64 ar, .slice a L.length ca] (cells_at rfl))) ?_
  refine st_q (v := .int .i64 ((c : Nat) : Int)) (x_move rfl) ?_
  refine st_q (v := .int .i64 ((d : Nat) : Int)) (x_move rfl) ?_
  refine st_e (e_buildSlice (cs := [.int .i64 ((c : Nat) : Int), .int .i64 ((d : Nat) : Int)]) (e := 3) (fun _ => by kernel_rfl) ?_)
  intro w30 hA31
  have hx32 := hA31.ext
  have hs33 := hA31.size
  have hB34 : Blk w30.heap w13.heap.size [.int .i64 ((c : Nat) : Int), .int .i64 ((d : Nat) : Int)] 3 := hA31.new
  have hB35 := hB18.ext hx32
  have hB36 := hB17.ext hx32
  have hE37 : Below w0.heap.size w0 w30 := hx32.e hE19 (Nat.le_refl _)
  have hz38 := hE37.le
  have hs39 := hx32.size
  refine st_c (t_call [.agg #[.string pr, .int .i64 ar, .slice a L.length ca], .slice ((some ⟨w13.heap.size, 0, none⟩)) 2 2] T.cf39 rfl rfl) (right39 pr ar L _ [((c : Nat) : Int), ((d : Nat) : Int)] _ _ (ha.below hE37) (RowsP.below hL hE37) (hB34.src1 (k := 1) (m := 2) rfl (by omega))) ?_
  rintro _ w40 ⟨rfl, hx41⟩
  refine ⟨_, rfl, ?_⟩
  have hB42 := hB35.ext hx41
  have hB43 := hB36.ext hx41
  have hB44 := hB34.ext hx41
  have hE45 : Below w0.heap.size w0 w40 := hx41.e hE37 (Nat.le_refl _)
  have hz46 := hE45.le
  have hs47 := hx41.size
  refine st_q (v := .bool (decide (¬ (rightB ar (tp L) [((c : Nat) : Int), ((d : Nat) : Int)])))) (x_notP rfl) ?_
  refine st_nil ?_
  refine kn27 _ _ ?_
  refine cnd (p := ¬ (rightB ar (tp L) [((c : Nat) : Int), ((d : Nat) : Int)])) rfl (fun h48 => ?_) (fun h48 => ?_)
  ·
   exact absurd h48 (not_not_intro hR2)
  ·
   refine skip ?_
   refine kn23 _ _ ?_
   refine seqK fun Q49 kn50 kr51 ke52 => ?_
   refine region ?_
   refine st_q (v := .agg #[.string pr, .int .i64 ar, .slice a L.length ca]) (x_loadA [.string pr, .int .i64 ar, .slice a L.length ca] T.ag29 rfl (hB42.cells 0 [.string pr, .int .i64 ar, .slice a L.length ca] (cells_at rfl))) ?_
   refine st_q (v := .int .i64 ((c : Nat) : Int)) (x_move rfl) ?_
   refine st_q (v := .int .i64 ((d : Nat) : Int)) (x_move rfl) ?_
   refine st_c (t_call [.agg #[.string pr, .int .i64 ar, .slice a L.length ca], .int .i64 ((c : Nat) : Int), .int .i64 ((d : Nat) : Int)] T.cf47 rfl rfl) (points47 pr ar L _ c d _ (ha.below hE45) (RowsP.below hL hE45) hG hC hD hn hsz (hT.below hE45)) ?_
   rintro _ w53 ⟨vN, rfl, hx54, hO55⟩
   refine ⟨_, rfl, ?_⟩
   have hB56 := hB42.ext hx54
   have hB57 := hB43.ext hx54
   have hB58 := hB44.ext hx54
   have hE59 : Below w0.heap.size w0 w53 := hx54.e hE45 (Nat.le_refl _)
   have hz60 := hE59.le
   have hs61 := hx54.size
   have hNl : (ptsL c d (setL (tp L))).length ≤ L.length := Nat.le_trans (ptsL_len _ _ _) (by have h2 := setL_len (tp L); rw [tp_len] at h2; exact h2)
   obtain ⟨N, hN⟩ : ∃ N, N = (ptsL c d (setL (tp L))) := ⟨_, rfl⟩
   rw [← hN] at hO55 hNl
   obtain ⟨aN, cN, rfl, hcN, hcN1⟩ := hO55.src.form
   have hO62 := hO55.weak (lo' := w0.heap.size) (by omega)
   refine st_q (v := .slice aN N.length cN) (x_assign rfl) ?_
   refine st_nil ?_
   refine kn50 _ _ ?_
   refine seqK fun Q63 kn64 kr65 ke66 => ?_
   refine region ?_
   refine st_q (v := .slice aN N.length cN) (x_move rfl) ?_
   refine st_q (v := .int .i64 ((N.length : Nat) : Int)) (x_lenSl rfl Tryd.underlying95 rfl) ?_
   refine st_q (v := .agg #[.int .i64 ((N.length : Nat) : Int), .float .f64 0, .float .f64 0, .float .f64 0]) (x_build (fun _ => by kernel_rfl)) ?_
   refine st_e (e_alloc T.zv57 ?_)
   intro w67 hA68
   have hx69 := hA68.ext
   have hs70 := hA68.size
   have hB71 : Blk w67.heap w53.heap.size [.int .i64 ((0 : Nat) : Int), .float .f64 0, .float .f64 0, .float .f64 0] 57 := hA68.new
   have hB72 := hB56.ext hx69
   have hB73 := hB57.ext hx69
   have hB74 := hB58.ext hx69
   have hF75 := hO62.ext hx69
   have hE76 : Below w0.heap.size w0 w67 := hx69.e hE59 (Nat.le_refl _)
   have hz77 := hE76.le
   have hs78 := hx69.size
   refine st_s (e_st (v := .agg #[.int .i64 ((N.length : Nat) : Int), .float .f64 0, .float .f64 0, .float .f64 0]) T.sz57 rfl rfl hB71 (by simp [Value.cells]) (by rfl) ?_)
   intro w79 hP80
   have hB81 : Blk w79.heap w53.heap.size [.int .i64 ((N.length : Nat) : Int), .float .f64 0, .float .f64 0, .float .f64 0] 57 := hP80.new
   have hs82 := hP80.size
   have hB83 := hB72.gk (hP80.grownBy) (hB71.rowk) (by decide)
   have hB84 := hB73.pt hP80 (by omega)
   have hB85 := hB74.gk (hP80.grownBy) (hB71.rowk) (by decide)
   have hF86 := hF75.gk (hP80.grownBy) (hB71.rowk) (by decide)
   have hE87 : Below w0.heap.size w0 w79 := hP80.below hE76 (by omega)
   have hz88 := hE87.le
   refine st_nil ?_
   refine kn64 _ _ ?_
   refine seqK fun Q89 kn90 kr91 ke92 => ?_
   refine seqK fun Q93 kn94 kr95 ke96 => ?_
   refine region ?_
   refine st_q (v := .slice aN N.length cN) (x_move rfl) ?_
   refine st_q (v := .int .i64 ((N.length : Nat) : Int)) (x_lenSl rfl Tryd.underlying95 rfl) ?_
   refine st_q (v := .bool (decide (N.length = 0))) (x_eqlN rfl rfl) ?_
   refine st_nil ?_
   refine kn94 _ _ ?_
   refine cnd (p := N.length = 0) rfl (fun h97 => ?_) (fun h97 => ?_)
   ·
    refine seqK fun Q98 kn99 kr100 ke101 => ?_
    refine region ?_
    refine st_q (v := .agg #[.int .i64 ((N.length : Nat) : Int), .float .f64 0, .float .f64 0, .float .f64 0]) (x_loadA [.int .i64 ((N.length : Nat) : Int), .float .f64 0, .float .f64 0, .float .f64 0] T.ag57 rfl (hB81.cells 0 [.int .i64 ((N.length : Nat) : Int), .float .f64 0, .float .f64 0, .float .f64 0] (cells_at rfl))) ?_
    refine st_s (e_st (v := .agg #[.int .i64 ((N.length : Nat) : Int), .float .f64 0, .float .f64 0, .float .f64 0]) T.sz57 rfl rfl hB84 (by simp [Value.cells]) (by rfl) ?_)
    intro w102 hP103
    have hB104 : Blk w102.heap w5.heap.size [.int .i64 ((N.length : Nat) : Int), .float .f64 0, .float .f64 0, .float .f64 0] 57 := hP103.new
    have hs105 := hP103.size
    have hB106 := hB83.gk (hP103.grownBy) (hB84.rowk) (by decide)
    have hB107 := hB85.gk (hP103.grownBy) (hB84.rowk) (by decide)
    have hB108 := hB81.pt hP103 (by omega)
    have hF109 := hF86.gk (hP103.grownBy) (hB84.rowk) (by decide)
    have hE110 : Below w0.heap.size w0 w102 := hP103.below hE87 (by omega)
    have hz111 := hE110.le
    refine st_q (v := .int .i64 ((0 : Nat) : Int)) (x_assign rfl) ?_
    refine st_nil ?_
    refine kn99 _ _ ?_
    refine ret ?_
    refine kr91 _ _ ?_
    refine leaveCT (P := Tryd.prog) (fn := Tryd.f24) (t := 6) (u := 7) (T := 57) (b := w5.heap.size) (o := 0) (cs := [.int .i64 ((N.length : Nat) : Int), .float .f64 0, .float .f64 0, .float .f64 0]) (v := .int .i64 ((0 : Nat) : Int)) rfl T.ag57 rfl (hB104.cells 0 [.int .i64 ((N.length : Nat) : Int), .float .f64 0, .float .f64 0, .float .f64 0] (cells_at rfl)) rfl ?_
    rw [← hN]
    exact ⟨0, 0, 0, rfl, hE110, by unfold FitR; rw [if_pos (by assumption)]; exact ⟨rfl, rfl, rfl⟩⟩
   ·
    refine skip ?_
    refine kn90 _ _ ?_
    refine seqK fun Q112 kn113 kr114 ke115 => ?_
    refine region ?_
    refine st_q (v := .float .f64 0) (x_assign rfl) ?_
    refine st_q (v := .float .f64 0) (x_assign rfl) ?_
    refine st_q (v := .float .f64 0) (x_assign rfl) ?_
    refine st_q (v := .float .f64 0) (x_assign rfl) ?_
    refine st_q (v := .float .f64 0) (x_assign rfl) ?_
    refine st_nil ?_
    refine kn113 _ _ ?_
    refine seqK fun Q116 kn117 kr118 ke119 => ?_
    refine seqK fun Q120 kn121 kr122 ke123 => ?_
    refine region ?_
    refine st_q (v := .slice aN N.length cN) (x_move rfl) ?_
    refine st_q (v := .int .i64 ((N.length : Nat) : Int)) (x_lenSl rfl Tryd.underlying95 rfl) ?_
    refine st_q (v := .int .i64 ((0 : Nat) : Int)) (x_move rfl) ?_
    refine st_nil ?_
    refine kn121 _ _ ?_
    refine blockK fun Q124 kn125 kr126 kx127 kb128 => ?_
    refine loopK (α := Nat × Nat × Nat) (fun x => [(6, .pointer (some ⟨w5.heap.size, 0, none⟩)), (8, .slice aN N.length cN), (9, .pointer (some ⟨w53.heap.size, 0, none⟩)), (10, .float .f64 x.2.1), (11, .float .f64 x.2.2), (12, .float .f64 0), (13, .float .f64 0), (14, .float .f64 0), (40, .slice aN N.length cN), (41, .int .i64 ((N.length : Nat) : Int)), (42, .int .i64 ((x.1 : Nat) : Int))]) (fun x w129 => Ext w79 w129 ∧ x.1 ≤ N.length ∧ SumTo 0 (N.map Prod.fst) x.1 x.2.1 ∧ SumTo 0 (N.map Prod.snd) x.1 x.2.2) (fun x => N.length - x.1) (0, 0, 0) ⟨rfl, rfl, rfl, rfl, rfl, rfl, rfl, rfl, rfl, rfl, rfl, trivial⟩ ?_ ?_
    ·
     refine ⟨Below.refl _ _, ?_⟩
     try dsimp only
     exact ⟨Nat.zero_le _, rfl, rfl⟩
    ·
     rintro τ130 ⟨i, sx, sy⟩ w131 ⟨hx132, ⟨hi, hsx, hsy⟩⟩
     try dsimp only at hi hsx hsy
     have hB133 := hB83.ext hx132
     have hB134 := hB84.ext hx132
     have hB135 := hB85.ext hx132
     have hB136 := hB81.ext hx132
     have hF137 := hF86.ext hx132
     have hE138 : Below w0.heap.size w0 w131 := hx132.e hE87 (Nat.le_refl _)
     have hz139 := hE138.le
     have hs140 := hx132.size
     intro Q141 kn142 kr143 ke144
     refine seqK fun Q145 kn146 kr147 ke148 => ?_
     refine region ?_
     refine st_q (v := .bool (decide (i < N.length))) (x_lssN rfl rfl) ?_
     refine st_nil ?_
     refine kn146 _ _ ?_
     refine seqK fun Q149 kn150 kr151 ke152 => ?_
     refine cnd (p := i < N.length) rfl (fun h153 => ?_) (fun h153 => ?_)
     ·
      refine skip ?_
      refine kn150 _ _ ?_
      refine seqK fun Q154 kn155 kr156 ke157 => ?_
      refine blockK fun Q158 kn159 kr160 kx161 kb162 => ?_
      refine seqK fun Q163 kn164 kr165 ke166 => ?_
      refine region ?_
      obtain ⟨b167, o168, ha169, hc170⟩ := hF137.src.at (by omega)
      refine st_q (v := .pointer (some ⟨b167, o168 + i * 1, none⟩)) (x_index' T.sl95 rfl ha169 rfl (by omega)) ?_
      refine st_q (v := .complex .f64 ((el N i).1) ((el N i).2)) (x_load1 T.na62 rfl (hc170.elem enC_len (i := i) (by omega))) ?_
      refine st_q (v := .complex .f64 ((el N i).1) ((el N i).2)) (x_assign rfl) ?_
      refine st_nil ?_
      refine kn164 _ _ ?_
      refine seqK fun Q171 kn172 kr173 ke174 => ?_
      refine region ?_
      refine st_q (v := .float .f64 sx) (x_move rfl) ?_
      refine st_q (v := .complex .f64 ((el N i).1) ((el N i).2)) (x_move rfl) ?_
      refine st_q (v := .float .f64 ((el N i).1)) (x_real rfl) ?_
      refine st_e (e_addF (a := sx) (b := ((el N i).1)) rfl rfl ?_)
      intro r175 w177 hr176 hx178
      have hB179 := hB133.ext hx178
      have hB180 := hB134.ext hx178
      have hB181 := hB135.ext hx178
      have hB182 := hB136.ext hx178
      have hF183 := hF137.ext hx178
      have hF184 := hx178.e hx132 (Nat.le_refl _)
      have hF185 := hc170.ext hx178
      have hE186 : Below w0.heap.size w0 w177 := hx178.e hE138 (Nat.le_refl _)
      have hz187 := hE186.le
      have hs188 := hx178.size
      refine st_q (v := .float .f64 r175) (x_assign rfl) ?_
      refine st_nil ?_
      refine kn172 _ _ ?_
      refine region ?_
      refine st_q (v := .float .f64 sy) (x_move rfl) ?_
      refine st_q (v := .complex .f64 ((el N i).1) ((el N i).2)) (x_move rfl) ?_
      refine st_q (v := .float .f64 ((el N i).2)) (x_imag rfl) ?_
      refine st_e (e_addF (a := sy) (b := ((el N i).2)) rfl rfl ?_)
      intro r189 w191 hr190 hx192
      have hB193 := hB179.ext hx192
      have hB194 := hB180.ext hx192
      have hB195 := hB181.ext hx192
      have hB196 := hB182.ext hx192
      have hF197 := hF183.ext hx192
      have hF198 := hx192.e hF184 (Nat.le_refl _)
      have hF199 := hF185.ext hx192
      have hE200 : Below w0.heap.size w0 w191 := hx192.e hE186 (Nat.le_refl _)
      have hz201 := hE200.le
      have hs202 := hx192.size
      refine st_q (v := .float .f64 r189) (x_assign rfl) ?_
      refine st_nil ?_
      refine kn159 _ _ ?_
      refine kn155 _ _ ?_
      refine region ?_
      refine st_q (v := .int .i64 (((i + 1) : Nat) : Int)) (x_addN rfl rfl (by omega)) ?_
      refine st_q (v := .int .i64 (((i + 1) : Nat) : Int)) (x_move rfl) ?_
      refine st_nil ?_
      refine kn142 _ ((i + 1), r175, r189) _ ⟨rfl, rfl, rfl, rfl, rfl, rfl, rfl, rfl, rfl, rfl, rfl, trivial⟩ ⟨hF198, ?_⟩ ?_
      ·
       try dsimp only
       exact ⟨by omega, sumTo_map hsx (by omega) hr176, sumTo_map hsy (by omega) hr190⟩
      ·
       (try dsimp only); omega
     ·
      refine exit ?_
      refine ke152 _ _ _ ?_
      refine ke144 _ _ _ ?_
      refine kb128 _ _ ?_
      refine kn117 _ _ ?_
      refine seqK fun Q203 kn204 kr205 ke206 => ?_
      refine region ?_
      refine st_q (v := .float .f64 sx) (x_move rfl) ?_
      refine st_q (v := .slice aN N.length cN) (x_move rfl) ?_
      refine st_q (v := .int .i64 ((N.length : Nat) : Int)) (x_lenSl rfl Tryd.underlying95 rfl) ?_
      refine st_q (v := .float .f64 ((fromInt (((N.length : Nat) : Int))))) (x_convF Tryd.underlying22 Tryd.underlying3 rfl) ?_
      refine st_e (e_quoF (a := sx) (b := ((fromInt (((N.length : Nat) : Int))))) rfl rfl ?_)
      intro r207 w209 hr208 hx210
      have hB211 := hB133.ext hx210
      have hB212 := hB134.ext hx210
      have hB213 := hB135.ext hx210
      have hB214 := hB136.ext hx210
      have hF215 := hF137.ext hx210
      have hF216 := hx210.e hx132 (Nat.le_refl _)
      have hE217 : Below w0.heap.size w0 w209 := hx210.e hE138 (Nat.le_refl _)
      have hz218 := hE217.le
      have hs219 := hx210.size
      refine st_q (v := .float .f64 sy) (x_move rfl) ?_
      refine st_q (v := .slice aN N.length cN) (x_move rfl) ?_
      refine st_q (v := .int .i64 ((N.length : Nat) : Int)) (x_lenSl rfl Tryd.underlying95 rfl) ?_
      refine st_q (v := .float .f64 ((fromInt (((N.length : Nat) : Int))))) (x_convF Tryd.underlying22 Tryd.underlying3 rfl) ?_
      refine st_e (e_quoF (a := sy) (b := ((fromInt (((N.length : Nat) : Int))))) rfl rfl ?_)
      intro r220 w222 hr221 hx223
      have hB224 := hB211.ext hx223
      have hB225 := hB212.ext hx223
      have hB226 := hB213.ext hx223
      have hB227 := hB214.ext hx223
      have hF228 := hF215.ext hx223
      have hF229 := hx223.e hF216 (Nat.le_refl _)
      have hE230 : Below w0.heap.size w0 w222 := hx223.e hE217 (Nat.le_refl _)
      have hz231 := hE230.le
      have hs232 := hx223.size
      refine st_q (v := .float .f64 r207) (x_assign rfl) ?_
      refine st_q (v := .float .f64 r220) (x_assign rfl) ?_
      refine st_nil ?_
      refine kn204 _ _ ?_
      refine seqK fun Q233 kn234 kr235 ke236 => ?_
      refine seqK fun Q237 kn238 kr239 ke240 => ?_
      refine region ?_
      refine st_q (v := .slice aN N.length cN) (x_move rfl) ?_
      refine st_q (v := .int .i64 ((N.length : Nat) : Int)) (x_lenSl rfl Tryd.underlying95 rfl) ?_
      refine st_q (v := .int .i64 ((0 : Nat) : Int)) (x_move rfl) ?_
      refine st_nil ?_
      refine kn238 _ _ ?_
      refine blockK fun Q241 kn242 kr243 kx244 kb245 => ?_
      refine loopK (α := Nat × Nat × Nat × Nat) (fun x => [(6, .pointer (some ⟨w5.heap.size, 0, none⟩)), (9, .pointer (some ⟨w53.heap.size, 0, none⟩)), (10, .float .f64 r207), (11, .float .f64 r220), (12, .float .f64 x.2.1), (13, .float .f64 x.2.2.1), (14, .float .f64 x.2.2.2), (65, .slice aN N.length cN), (66, .int .i64 ((N.length : Nat) : Int)), (67, .int .i64 ((x.1 : Nat) : Int))]) (fun x w246 => Ext w222 w246 ∧ x.1 ≤ N.length ∧ PQ r207 r220 N x.1 x.2.1 x.2.2.1 x.2.2.2) (fun x => N.length - x.1) (0, 0, 0, 0) ⟨rfl, rfl, rfl, rfl, rfl, rfl, rfl, rfl, rfl, rfl, trivial⟩ ?_ ?_
      ·
       refine ⟨Below.refl _ _, ?_⟩
       try dsimp only
       exact ⟨Nat.zero_le _, rfl, rfl, rfl⟩
      ·
       rintro τ247 ⟨j, p, q, s⟩ w248 ⟨hx249, ⟨hj, hPQ⟩⟩
       try dsimp only at hj hPQ
       have hB250 := hB224.ext hx249
       have hB251 := hB225.ext hx249
       have hB252 := hB226.ext hx249
       have hB253 := hB227.ext hx249
       have hF254 := hF228.ext hx249
       have hF255 := hx249.e hF229 (Nat.le_refl _)
       have hE256 : Below w0.heap.size w0 w248 := hx249.e hE230 (Nat.le_refl _)
       have hz257 := hE256.le
       have hs258 := hx249.size
       intro Q259 kn260 kr261 ke262
       refine seqK fun Q263 kn264 kr265 ke266 => ?_
       refine region ?_
       refine st_q (v := .bool (decide (j < N.length))) (x_lssN rfl rfl) ?_
       refine st_nil ?_
       refine kn264 _ _ ?_
       refine seqK fun Q267 kn268 kr269 ke270 => ?_
       refine cnd (p := j < N.length) rfl (fun h271 => ?_) (fun h271 => ?_)
       ·
        refine skip ?_
        refine kn268 _ _ ?_
        refine seqK fun Q272 kn273 kr274 ke275 => ?_
        refine blockK fun Q276 kn277 kr278 kx279 kb280 => ?_
        refine seqK fun Q281 kn282 kr283 ke284 => ?_
        refine region ?_
        obtain ⟨b285, o286, ha287, hc288⟩ := hF254.src.at (by omega)
        refine st_q (v := .pointer (some ⟨b285, o286 + j * 1, none⟩)) (x_index' T.sl95 rfl ha287 rfl (by omega)) ?_
        refine st_q (v := .complex .f64 ((el N j).1) ((el N j).2)) (x_load1 T.na62 rfl (hc288.elem enC_len (i := j) (by omega))) ?_
        refine st_q (v := .complex .f64 ((el N j).1) ((el N j).2)) (x_assign rfl) ?_
        refine st_nil ?_
        refine kn282 _ _ ?_
        refine seqK fun Q289 kn290 kr291 ke292 => ?_
        refine region ?_
        refine st_q (v := .complex .f64 ((el N j).1) ((el N j).2)) (x_move rfl) ?_
        refine st_q (v := .float .f64 ((el N j).1)) (x_real rfl) ?_
        refine st_q (v := .float .f64 r207) (x_move rfl) ?_
        refine st_e (e_subF (a := ((el N j).1)) (b := r207) rfl rfl ?_)
        intro r293 w295 hr294 hx296
        have hB297 := hB250.ext hx296
        have hB298 := hB251.ext hx296
        have hB299 := hB252.ext hx296
        have hB300 := hB253.ext hx296
        have hF301 := hF254.ext hx296
        have hF302 := hx296.e hF255 (Nat.le_refl _)
        have hF303 := hx296.e hx249 (Nat.le_refl _)
        have hF304 := hc288.ext hx296
        have hE305 : Below w0.heap.size w0 w295 := hx296.e hE256 (Nat.le_refl _)
        have hz306 := hE305.le
        have hs307 := hx296.size
        refine st_q (v := .complex .f64 ((el N j).1) ((el N j).2)) (x_move rfl) ?_
        refine st_q (v := .float .f64 ((el N j).2)) (x_imag rfl) ?_
        refine st_q (v := .float .f64 r220) (x_move rfl) ?_
        refine st_e (e_subF (a := ((el N j).2)) (b := r220) rfl rfl ?_)
        intro r308 w310 hr309 hx311
        have hB312 := hB297.ext hx311
        have hB313 := hB298.ext hx311
        have hB314 := hB299.ext hx311
        have hB315 := hB300.ext hx311
        have hF316 := hF301.ext hx311
        have hF317 := hx311.e hF302 (Nat.le_refl _)
        have hF318 := hx311.e hF303 (Nat.le_refl _)
        have hF319 := hF304.ext hx311
        have hE320 : Below w0.heap.size w0 w310 := hx311.e hE305 (Nat.le_refl _)
        have hz321 := hE320.le
        have hs322 := hx311.size
        refine st_q (v := .float .f64 r293) (x_assign rfl) ?_
        refine st_q (v := .float .f64 r308) (x_assign rfl) ?_
        refine st_nil ?_
        refine kn290 _ _ ?_
        refine seqK fun Q323 kn324 kr325 ke326 => ?_
        refine region ?_
        refine st_q (v := .float .f64 p) (x_move rfl) ?_
        refine st_q (v := .float .f64 r293) (x_move rfl) ?_
        refine st_q (v := .float .f64 r293) (x_move rfl) ?_
        refine st_e (e_mulF (a := r293) (b := r293) rfl rfl ?_)
        intro r327 w329 hr328 hx330
        have hB331 := hB312.ext hx330
        have hB332 := hB313.ext hx330
        have hB333 := hB314.ext hx330
        have hB334 := hB315.ext hx330
        have hF335 := hF316.ext hx330
        have hF336 := hx330.e hF317 (Nat.le_refl _)
        have hF337 := hx330.e hF318 (Nat.le_refl _)
        have hF338 := hF319.ext hx330
        have hE339 : Below w0.heap.size w0 w329 := hx330.e hE320 (Nat.le_refl _)
        have hz340 := hE339.le
        have hs341 := hx330.size
        refine st_e (e_addF (a := p) (b := r327) rfl rfl ?_)
        intro r342 w344 hr343 hx345
        have hB346 := hB331.ext hx345
        have hB347 := hB332.ext hx345
        have hB348 := hB333.ext hx345
        have hB349 := hB334.ext hx345
        have hF350 := hF335.ext hx345
        have hF351 := hx345.e hF336 (Nat.le_refl _)
        have hF352 := hx345.e hF337 (Nat.le_refl _)
        have hF353 := hF338.ext hx345
        have hE354 : Below w0.heap.size w0 w344 := hx345.e hE339 (Nat.le_refl _)
        have hz355 := hE354.le
        have hs356 := hx345.size
        refine st_q (v := .float .f64 r342) (x_assign rfl) ?_
        refine st_nil ?_
        refine kn324 _ _ ?_
        refine seqK fun Q357 kn358 kr359 ke360 => ?_
        refine region ?_
        refine st_q (v := .float .f64 q) (x_move rfl) ?_
        refine st_q (v := .float .f64 r293) (x_move rfl) ?_
        refine st_q (v := .float .f64 r308) (x_move rfl) ?_
        refine st_e (e_mulF (a := r293) (b := r308) rfl rfl ?_)
        intro r361 w363 hr362 hx364
        have hB365 := hB346.ext hx364
        have hB366 := hB347.ext hx364
        have hB367 := hB348.ext hx364
        have hB368 := hB349.ext hx364
        have hF369 := hF350.ext hx364
        have hF370 := hx364.e hF351 (Nat.le_refl _)
        have hF371 := hx364.e hF352 (Nat.le_refl _)
        have hF372 := hF353.ext hx364
        have hE373 : Below w0.heap.size w0 w363 := hx364.e hE354 (Nat.le_refl _)
        have hz374 := hE373.le
        have hs375 := hx364.size
        refine st_e (e_addF (a := q) (b := r361) rfl rfl ?_)
        intro r376 w378 hr377 hx379
        have hB380 := hB365.ext hx379
        have hB381 := hB366.ext hx379
        have hB382 := hB367.ext hx379
        have hB383 := hB368.ext hx379
        have hF384 := hF369.ext hx379
        have hF385 := hx379.e hF370 (Nat.le_refl _)
        have hF386 := hx379.e hF371 (Nat.le_refl _)
        have hF387 := hF372.ext hx379
        have hE388 : Below w0.heap.size w0 w378 := hx379.e hE373 (Nat.le_refl _)
        have hz389 := hE388.le
        have hs390 := hx379.size
        refine st_q (v := .float .f64 r376) (x_assign rfl) ?_
        refine st_nil ?_
        refine kn358 _ _ ?_
        refine region ?_
        refine st_q (v := .float .f64 s) (x_move rfl) ?_
        refine st_q (v := .float .f64 r308) (x_move rfl) ?_
        refine st_q (v := .float .f64 r308) (x_move rfl) ?_
        refine st_e (e_mulF (a := r308) (b := r308) rfl rfl ?_)
        intro r391 w393 hr392 hx394
        have hB395 := hB380.ext hx394
        have hB396 := hB381.ext hx394
        have hB397 := hB382.ext hx394
        have hB398 := hB383.ext hx394
        have hF399 := hF384.ext hx394
        have hF400 := hx394.e hF385 (Nat.le_refl _)
        have hF401 := hx394.e hF386 (Nat.le_refl _)
        have hF402 := hF387.ext hx394
        have hE403 : Below w0.heap.size w0 w393 := hx394.e hE388 (Nat.le_refl _)
        have hz404 := hE403.le
        have hs405 := hx394.size
        refine st_e (e_addF (a := s) (b := r391) rfl rfl ?_)
        intro r406 w408 hr407 hx409
        have hB410 := hB395.ext hx409
        have hB411 := hB396.ext hx409
        have hB412 := hB397.ext hx409
        have hB413 := hB398.ext hx409
        have hF414 := hF399.ext hx409
        have hF415 := hx409.e hF400 (Nat.le_refl _)
        have hF416 := hx409.e hF401 (Nat.le_refl _)
        have hF417 := hF402.ext hx409
        have hE418 : Below w0.heap.size w0 w408 := hx409.e hE403 (Nat.le_refl _)
        have hz419 := hE418.le
        have hs420 := hx409.size
        refine st_q (v := .float .f64 r406) (x_assign rfl) ?_
        refine st_nil ?_
        refine kn277 _ _ ?_
        refine kn273 _ _ ?_
        refine region ?_
        refine st_q (v := .int .i64 (((j + 1) : Nat) : Int)) (x_addN rfl rfl (by omega)) ?_
        refine st_q (v := .int .i64 (((j + 1) : Nat) : Int)) (x_move rfl) ?_
        refine st_nil ?_
        refine kn260 _ ((j + 1), r342, r376, r406) _ ⟨rfl, rfl, rfl, rfl, rfl, rfl, rfl, rfl, rfl, rfl, trivial⟩ ⟨hF416, ?_⟩ ?_
        ·
         try dsimp only
         exact ⟨by omega, _, _, _, _, _, _, _, _, hPQ, hr294, hr309, hr328, hr343, hr362, hr377, hr392, hr407⟩
        ·
         (try dsimp only); omega
       ·
        refine exit ?_
        refine ke270 _ _ _ ?_
        refine ke262 _ _ _ ?_
        refine kb245 _ _ ?_
        refine kn234 _ _ ?_
        refine seqK fun Q421 kn422 kr423 ke424 => ?_
        refine seqK fun Q425 kn426 kr427 ke428 => ?_
        refine region ?_
        refine st_q (v := .float .f64 p) (x_move rfl) ?_
        refine st_q (v := .bool (decide (¬ (Flt.D.order p 0 = some .eq)))) (x_neqF rfl rfl) ?_
        refine st_nil ?_
        refine kn426 _ _ ?_
        refine cnd (p := ¬ (Flt.D.order p 0 = some .eq)) rfl (fun h429 => ?_) (fun h429 => ?_)
        ·
         refine region ?_
         refine st_q (v := .float .f64 q) (x_move rfl) ?_
         refine st_q (v := .float .f64 p) (x_move rfl) ?_
         refine st_e (e_quoF (a := q) (b := p) rfl rfl ?_)
         intro r430 w432 hr431 hx433
         have hB434 := hB250.ext hx433
         have hB435 := hB251.ext hx433
         have hB436 := hB252.ext hx433
         have hB437 := hB253.ext hx433
         have hF438 := hF254.ext hx433
         have hF439 := hx433.e hF255 (Nat.le_refl _)
         have hF440 := hx433.e hx249 (Nat.le_refl _)
         have hE441 : Below w0.heap.size w0 w432 := hx433.e hE256 (Nat.le_refl _)
         have hz442 := hE441.le
         have hs443 := hx433.size
         refine st_q (v := .pointer (some ⟨w53.heap.size, 1, none⟩)) (x_field (o := 0) T.fa57_1 rfl) ?_
         refine st_s (e_st (v := .float .f64 r430) T.sz22 rfl rfl hB437 (by simp [Value.cells]) (by rfl) ?_)
         intro w444 hP445
         have hB446 : Blk w444.heap w53.heap.size [.int .i64 ((N.length : Nat) : Int), .float .f64 r430, .float .f64 0, .float .f64 0] 57 := hP445.new
         have hs447 := hP445.size
         have hB448 := hB434.gk (hP445.grownBy) (hB437.rowk) (by decide)
         have hB449 := hB435.pt hP445 (by omega)
         have hB450 := hB436.gk (hP445.grownBy) (hB437.rowk) (by decide)
         have hF451 := hF438.gk (hP445.grownBy) (hB437.rowk) (by decide)
         have hE454 : Below w0.heap.size w0 w444 := hP445.below hE441 (by omega)
         have hz455 := hE454.le
         refine st_nil ?_
         refine kn422 _ _ ?_
         refine seqK fun Q456 kn457 kr458 ke459 => ?_
         refine region ?_
         refine st_q (v := .float .f64 r220) (x_move rfl) ?_
         refine st_q (v := .pointer (some ⟨w53.heap.size, 1, none⟩)) (x_field (o := 0) T.fa57_1 rfl) ?_
         refine st_q (v := .float .f64 r430) (x_load1 T.na22 rfl (hB446.one 1 rfl)) ?_
         refine st_q (v := .float .f64 r207) (x_move rfl) ?_
         refine st_e (e_mulF (a := r430) (b := r207) rfl rfl ?_)
         intro r460 w462 hr461 hx463
         have hB464 := hB448.ext hx463
         have hB465 := hB449.ext hx463
         have hB466 := hB450.ext hx463
         have hB467 := hB446.ext hx463
         have hF468 := hF451.ext hx463
         have hE469 : Below w0.heap.size w0 w462 := hx463.e hE454 (Nat.le_refl _)
         have hz470 := hE469.le
         have hs471 := hx463.size
         refine st_e (e_subF (a := r220) (b := r460) rfl rfl ?_)
         intro r472 w474 hr473 hx475
         have hB476 := hB464.ext hx475
         have hB477 := hB465.ext hx475
         have hB478 := hB466.ext hx475
         have hB479 := hB467.ext hx475
         have hF480 := hF468.ext hx475
         have hE481 : Below w0.heap.size w0 w474 := hx475.e hE469 (Nat.le_refl _)
         have hz482 := hE481.le
         have hs483 := hx475.size
         refine st_q (v := .pointer (some ⟨w53.heap.size, 2, none⟩)) (x_field (o := 0) T.fa57_2 rfl) ?_
         refine st_s (e_st (v := .float .f64 r472) T.sz22 rfl rfl hB479 (by simp [Value.cells]) (by rfl) ?_)
         intro w484 hP485
         have hB486 : Blk w484.heap w53.heap.size [.int .i64 ((N.length : Nat) : Int), .float .f64 r430, .float .f64 r472, .float .f64 0] 57 := hP485.new
         have hs487 := hP485.size
         have hB488 := hB476.gk (hP485.grownBy) (hB479.rowk) (by decide)
         have hB489 := hB477.pt hP485 (by omega)
         have hB490 := hB478.gk (hP485.grownBy) (hB479.rowk) (by decide)
         have hF491 := hF480.gk (hP485.grownBy) (hB479.rowk) (by decide)
         have hE492 : Below w0.heap.size w0 w484 := hP485.below hE481 (by omega)
         have hz493 := hE492.le
         refine st_nil ?_
         refine kn457 _ _ ?_
         refine seqK fun Q494 kn495 kr496 ke497 => ?_
         refine seqK fun Q498 kn499 kr500 ke501 => ?_
         refine region ?_
         refine st_q (v := .float .f64 p) (x_move rfl) ?_
         refine st_q (v := .float .f64 s) (x_move rfl) ?_
         refine st_e (e_mulF (a := p) (b := s) rfl rfl ?_)
         intro r502 w504 hr503 hx505
         have hB506 := hB488.ext hx505
         have hB507 := hB489.ext hx505
         have hB508 := hB490.ext hx505
         have hB509 := hB486.ext hx505
         have hF510 := hF491.ext hx505
         have hE511 : Below w0.heap.size w0 w504 := hx505.e hE492 (Nat.le_refl _)
         have hz512 := hE511.le
         have hs513 := hx505.size
         refine st_q (v := .float .f64 r502) (x_assign rfl) ?_
         refine st_nil ?_
         refine kn499 _ _ ?_
         refine seqK fun Q514 kn515 kr516 ke517 => ?_
         refine region ?_
         refine st_q (v := .float .f64 r502) (x_move rfl) ?_
         refine st_q (v := .bool (decide (¬ (Flt.D.order r502 0 = some .eq)))) (x_neqF rfl rfl) ?_
         refine st_nil ?_
         refine kn515 _ _ ?_
         refine cnd (p := ¬ (Flt.D.order r502 0 = some .eq)) rfl (fun h518 => ?_) (fun h518 => ?_)
         ·
          refine region ?_
          refine st_q (v := .float .f64 q) (x_move rfl) ?_
          refine st_q (v := .float .f64 q) (x_move rfl) ?_
          refine st_e (e_mulF (a := q) (b := q) rfl rfl ?_)
          intro r519 w521 hr520 hx522
          have hB523 := hB506.ext hx522
          have hB524 := hB507.ext hx522
          have hB525 := hB508.ext hx522
          have hB526 := hB509.ext hx522
          have hF527 := hF510.ext hx522
          have hE528 : Below w0.heap.size w0 w521 := hx522.e hE511 (Nat.le_refl _)
          have hz529 := hE528.le
          have hs530 := hx522.size
          refine st_q (v := .float .f64 r502) (x_move rfl) ?_
          refine st_e (e_quoF (a := r519) (b := r502) rfl rfl ?_)
          intro r531 w533 hr532 hx534
          have hB535 := hB523.ext hx534
          have hB536 := hB524.ext hx534
          have hB537 := hB525.ext hx534
          have hB538 := hB526.ext hx534
          have hF539 := hF527.ext hx534
          have hE540 : Below w0.heap.size w0 w533 := hx534.e hE528 (Nat.le_refl _)
          have hz541 := hE540.le
          have hs542 := hx534.size
          refine st_q (v := .pointer (some ⟨w53.heap.size, 3, none⟩)) (x_field (o := 0) T.fa57_3 rfl) ?_
          refine st_s (e_st (v := .float .f64 r531) T.sz22 rfl rfl hB538 (by simp [Value.cells]) (by rfl) ?_)
          intro w543 hP544
          have hB545 : Blk w543.heap w53.heap.size [.int .i64 ((N.length : Nat) : Int), .float .f64 r430, .float .f64 r472, .float .f64 r531] 57 := hP544.new
          have hs546 := hP544.size
          have hB547 := hB535.gk (hP544.grownBy) (hB538.rowk) (by decide)
          have hB548 := hB536.pt hP544 (by omega)
          have hB549 := hB537.gk (hP544.grownBy) (hB538.rowk) (by decide)
          have hF550 := hF539.gk (hP544.grownBy) (hB538.rowk) (by decide)
          have hE551 : Below w0.heap.size w0 w543 := hP544.below hE540 (by omega)
          have hz552 := hE551.le
          refine st_nil ?_
          refine kn495 _ _ ?_
          refine seqK fun Q553 kn554 kr555 ke556 => ?_
          refine region ?_
          refine st_q (v := .agg #[.int .i64 ((N.length : Nat) : Int), .float .f64 r430, .float .f64 r472, .float .f64 r531]) (x_loadA [.int .i64 ((N.length : Nat) : Int), .float .f64 r430, .float .f64 r472, .float .f64 r531] T.ag57 rfl (hB545.cells 0 [.int .i64 ((N.length : Nat) : Int), .float .f64 r430, .float .f64 r472, .float .f64 r531] (cells_at rfl))) ?_
          refine st_s (e_st (v := .agg #[.int .i64 ((N.length : Nat) : Int), .float .f64 r430, .float .f64 r472, .float .f64 r531]) T.sz57 rfl rfl hB548 (by simp [Value.cells]) (by rfl) ?_)
          intro w557 hP558
          have hB559 : Blk w557.heap w5.heap.size [.int .i64 ((N.length : Nat) : Int), .float .f64 r430, .float .f64 r472, .float .f64 r531] 57 := hP558.new
          have hs560 := hP558.size
          have hB561 := hB547.gk (hP558.grownBy) (hB548.rowk) (by decide)
          have hB562 := hB549.gk (hP558.grownBy) (hB548.rowk) (by decide)
          have hB563 := hB545.pt hP558 (by omega)
          have hF564 := hF550.gk (hP558.grownBy) (hB548.rowk) (by decide)
          have hE565 : Below w0.heap.size w0 w557 := hP558.below hE551 (by omega)
          have hz566 := hE565.le
          refine st_q (v := .int .i64 ((0 : Nat) : Int)) (x_assign rfl) ?_
          refine st_nil ?_
          refine kn554 _ _ ?_
          refine ret ?_
          refine leaveCT (P := Tryd.prog) (fn := Tryd.f24) (t := 6) (u := 7) (T := 57) (b := w5.heap.size) (o := 0) (cs := [.int .i64 ((N.length : Nat) : Int), .float .f64 r430, .float .f64 r472, .float .f64 r531]) (v := .int .i64 ((0 : Nat) : Int)) rfl T.ag57 rfl (hB559.cells 0 [.int .i64 ((N.length : Nat) : Int), .float .f64 r430, .float .f64 r472, .float .f64 r531] (cells_at rfl)) rfl ?_
          obtain rfl : i = N.length := by omega
          obtain rfl : j = N.length := by omega
          rw [← hN]
          refine ⟨_, _, _, rfl, hE565, ?_⟩
          unfold FitR; rw [if_neg (by omega)]
          exact ⟨_, _, _, _, p, q, s, _, _, hsx, hsy, hr208, hr221, hPQ, by rw [if_neg (by assumption)]; exact hr431, hr461, hr473, hr503, by rw [if_neg (by assumption)]; exact ⟨_, hr520, hr532⟩⟩
         ·
          refine skip ?_
          refine kn495 _ _ ?_
          refine seqK fun Q567 kn568 kr569 ke570 => ?_
          refine region ?_
          refine st_q (v := .agg #[.int .i64 ((N.length : Nat) : Int), .float .f64 r430, .float .f64 r472, .float .f64 0]) (x_loadA [.int .i64 ((N.length : Nat) : Int), .float .f64 r430, .float .f64 r472, .float .f64 0] T.ag57 rfl (hB509.cells 0 [.int .i64 ((N.length : Nat) : Int), .float .f64 r430, .float .f64 r472, .float .f64 0] (cells_at rfl))) ?_
          refine st_s (e_st (v := .agg #[.int .i64 ((N.length : Nat) : Int), .float .f64 r430, .float .f64 r472, .float .f64 0]) T.sz57 rfl rfl hB507 (by simp [Value.cells]) (by rfl) ?_)
          intro w571 hP572
          have hB573 : Blk w571.heap w5.heap.size [.int .i64 ((N.length : Nat) : Int), .float .f64 r430, .float .f64 r472, .float .f64 0] 57 := hP572.new
          have hs574 := hP572.size
          have hB575 := hB506.gk (hP572.grownBy) (hB507.rowk) (by decide)
          have hB576 := hB508.gk (hP572.grownBy) (hB507.rowk) (by decide)
          have hB577 := hB509.pt hP572 (by omega)
          have hF578 := hF510.gk (hP572.grownBy) (hB507.rowk) (by decide)
          have hE579 : Below w0.heap.size w0 w571 := hP572.below hE511 (by omega)
          have hz580 := hE579.le
          refine st_q (v := .int .i64 ((0 : Nat) : Int)) (x_assign rfl) ?_
          refine st_nil ?_
          refine kn568 _ _ ?_
          refine ret ?_
          refine leaveCT (P := Tryd.prog) (fn := Tryd.f24) (t := 6) (u := 7) (T := 57) (b := w5.heap.size) (o := 0) (cs := [.int .i64 ((N.length : Nat) : Int), .float .f64 r430, .float .f64 r472, .float .f64 0]) (v := .int .i64 ((0 : Nat) : Int)) rfl T.ag57 rfl (hB573.cells 0 [.int .i64 ((N.length : Nat) : Int), .float .f64 r430, .float .f64 r472, .float .f64 0] (cells_at rfl)) rfl ?_
          obtain rfl : i = N.length := by omega
          obtain rfl : j = N.length := by omega
          rw [← hN]
          refine ⟨_, _, _, rfl, hE579, ?_⟩
          unfold FitR; rw [if_neg (by omega)]
          exact ⟨_, _, _, _, p, q, s, _, _, hsx, hsy, hr208, hr221, hPQ, by rw [if_neg (by assumption)]; exact hr431, hr461, hr473, hr503, by rw [if_pos (Decidable.of_not_not (by assumption))]⟩
        ·
         refine skip ?_
         refine kn422 _ _ ?_
         refine seqK fun Q581 kn582 kr583 ke584 => ?_
         refine region ?_
         refine st_q (v := .float .f64 r220) (x_move rfl) ?_
         refine st_q (v := .pointer (some ⟨w53.heap.size, 1, none⟩)) (x_field (o := 0) T.fa57_1 rfl) ?_
         refine st_q (v := .float .f64 0) (x_load1 T.na22 rfl (hB253.one 1 rfl)) ?_
         refine st_q (v := .float .f64 r207) (x_move rfl) ?_
         refine st_e (e_mulF (a := 0) (b := r207) rfl rfl ?_)
         intro r585 w587 hr586 hx588
         have hB589 := hB250.ext hx588
         have hB590 := hB251.ext hx588
         have hB591 := hB252.ext hx588
         have hB592 := hB253.ext hx588
         have hF593 := hF254.ext hx588
         have hF594 := hx588.e hF255 (Nat.le_refl _)
         have hF595 := hx588.e hx249 (Nat.le_refl _)
         have hE596 : Below w0.heap.size w0 w587 := hx588.e hE256 (Nat.le_refl _)
         have hz597 := hE596.le
         have hs598 := hx588.size
         refine st_e (e_subF (a := r220) (b := r585) rfl rfl ?_)
         intro r599 w601 hr600 hx602
         have hB603 := hB589.ext hx602
         have hB604 := hB590.ext hx602
         have hB605 := hB591.ext hx602
         have hB606 := hB592.ext hx602
         have hF607 := hF593.ext hx602
         have hF608 := hx602.e hF594 (Nat.le_refl _)
         have hF609 := hx602.e hF595 (Nat.le_refl _)
         have hE610 : Below w0.heap.size w0 w601 := hx602.e hE596 (Nat.le_refl _)
         have hz611 := hE610.le
         have hs612 := hx602.size
         refine st_q (v := .pointer (some ⟨w53.heap.size, 2, none⟩)) (x_field (o := 0) T.fa57_2 rfl) ?_
         refine st_s (e_st (v := .float .f64 r599) T.sz22 rfl rfl hB606 (by simp [Value.cells]) (by rfl) ?_)
         intro w613 hP614
         have hB615 : Blk w613.heap w53.heap.size [.int .i64 ((N.length : Nat) : Int), .float .f64 0, .float .f64 r599, .float .f64 0] 57 := hP614.new
         have hs616 := hP614.size
         have hB617 := hB603.gk (hP614.grownBy) (hB606.rowk) (by decide)
         have hB618 := hB604.pt hP614 (by omega)
         have hB619 := hB605.gk (hP614.grownBy) (hB606.rowk) (by decide)
         have hF620 := hF607.gk (hP614.grownBy) (hB606.rowk) (by decide)
         have hE623 : Below w0.heap.size w0 w613 := hP614.below hE610 (by omega)
         have hz624 := hE623.le
         refine st_nil ?_
         refine kn582 _ _ ?_
         refine seqK fun Q625 kn626 kr627 ke628 => ?_
         refine seqK fun Q629 kn630 kr631 ke632 => ?_
         refine region ?_
         refine st_q (v := .float .f64 p) (x_move rfl) ?_
         refine st_q (v := .float .f64 s) (x_move rfl) ?_
         refine st_e (e_mulF (a := p) (b := s) rfl rfl ?_)
         intro r633 w635 hr634 hx636
         have hB637 := hB617.ext hx636
         have hB638 := hB618.ext hx636
         have hB639 := hB619.ext hx636
         have hB640 := hB615.ext hx636
         have hF641 := hF620.ext hx636
         have hE642 : Below w0.heap.size w0 w635 := hx636.e hE623 (Nat.le_refl _)
         have hz643 := hE642.le
         have hs644 := hx636.size
         refine st_q (v := .float .f64 r633) (x_assign rfl) ?_
         refine st_nil ?_
         refine kn630 _ _ ?_
         refine seqK fun Q645 kn646 kr647 ke648 => ?_
         refine region ?_
         refine st_q (v := .float .f64 r633) (x_move rfl) ?_
         refine st_q (v := .bool (decide (¬ (Flt.D.order r633 0 = some .eq)))) (x_neqF rfl rfl) ?_
         refine st_nil ?_
         refine kn646 _ _ ?_
         refine cnd (p := ¬ (Flt.D.order r633 0 = some .eq)) rfl (fun h649 => ?_) (fun h649 => ?_)
         ·
          refine region ?_
          refine st_q (v := .float .f64 q) (x_move rfl) ?_
          refine st_q (v := .float .f64 q) (x_move rfl) ?_
          refine st_e (e_mulF (a := q) (b := q) rfl rfl ?_)
          intro r650 w652 hr651 hx653
          have hB654 := hB637.ext hx653
          have hB655 := hB638.ext hx653
          have hB656 := hB639.ext hx653
          have hB657 := hB640.ext hx653
          have hF658 := hF641.ext hx653
          have hE659 : Below w0.heap.size w0 w652 := hx653.e hE642 (Nat.le_refl _)
          have hz660 := hE659.le
          have hs661 := hx653.size
          refine st_q (v := .float .f64 r633) (x_move rfl) ?_
          refine st_e (e_quoF (a := r650) (b := r633) rfl rfl ?_)
          intro r662 w664 hr663 hx665
          have hB666 := hB654.ext hx665
          have hB667 := hB655.ext hx665
          have hB668 := hB656.ext hx665
          have hB669 := hB657.ext hx665
          have hF670 := hF658.ext hx665
          have hE671 : Below w0.heap.size w0 w664 := hx665.e hE659 (Nat.le_refl _)
          have hz672 := hE671.le
          have hs673 := hx665.size
          refine st_q (v := .pointer (some ⟨w53.heap.size, 3, none⟩)) (x_field (o := 0) T.fa57_3 rfl) ?_
          refine st_s (e_st (v := .float .f64 r662) T.sz22 rfl rfl hB669 (by simp [Value.cells]) (by rfl) ?_)
          intro w674 hP675
          have hB676 : Blk w674.heap w53.heap.size [.int .i64 ((N.length : Nat) : Int), .float .f64 0, .float .f64 r599, .float .f64 r662] 57 := hP675.new
          have hs677 := hP675.size
          have hB678 := hB666.gk (hP675.grownBy) (hB669.rowk) (by decide)
          have hB679 := hB667.pt hP675 (by omega)
          have hB680 := hB668.gk (hP675.grownBy) (hB669.rowk) (by decide)
          have hF681 := hF670.gk (hP675.grownBy) (hB669.rowk) (by decide)
          have hE682 : Below w0.heap.size w0 w674 := hP675.below hE671 (by omega)
          have hz683 := hE682.le
          refine st_nil ?_
          refine kn626 _ _ ?_
          refine seqK fun Q684 kn685 kr686 ke687 => ?_
          refine region ?_
          refine st_q (v := .agg #[.int .i64 ((N.length : Nat) : Int), .float .f64 0, .float .f64 r599, .float .f64 r662]) (x_loadA [.int .i64 ((N.length : Nat) : Int), .float .f64 0, .float .f64 r599, .float .f64 r662] T.ag57 rfl (hB676.cells 0 [.int .i64 ((N.length : Nat) : Int), .float .f64 0, .float .f64 r599, .float .f64 r662] (cells_at rfl))) ?_
          refine st_s (e_st (v := .agg #[.int .i64 ((N.length : Nat) : Int), .float .f64 0, .float .f64 r599, .float .f64 r662]) T.sz57 rfl rfl hB679 (by simp [Value.cells]) (by rfl) ?_)
          intro w688 hP689
          have hB690 : Blk w688.heap w5.heap.size [.int .i64 ((N.length : Nat) : Int), .float .f64 0, .float .f64 r599, .float .f64 r662] 57 := hP689.new
          have hs691 := hP689.size
          have hB692 := hB678.gk (hP689.grownBy) (hB679.rowk) (by decide)
          have hB693 := hB680.gk (hP689.grownBy) (hB679.rowk) (by decide)
          have hB694 := hB676.pt hP689 (by omega)
          have hF695 := hF681.gk (hP689.grownBy) (hB679.rowk) (by decide)
          have hE696 : Below w0.heap.size w0 w688 := hP689.below hE682 (by omega)
          have hz697 := hE696.le
          refine st_q (v := .int .i64 ((0 : Nat) : Int)) (x_assign rfl) ?_
          refine st_nil ?_
          refine kn685 _ _ ?_
          refine ret ?_
          refine leaveCT (P := Tryd.prog) (fn := Tryd.f24) (t := 6) (u := 7) (T := 57) (b := w5.heap.size) (o := 0) (cs := [.int .i64 ((N.length : Nat) : Int), .float .f64 0, .float .f64 r599, .float .f64 r662]) (v := .int .i64 ((0 : Nat) : Int)) rfl T.ag57 rfl (hB690.cells 0 [.int .i64 ((N.length : Nat) : Int), .float .f64 0, .float .f64 r599, .float .f64 r662] (cells_at rfl)) rfl ?_
          obtain rfl : i = N.length := by omega
          obtain rfl : j = N.length := by omega
          rw [← hN]
          refine ⟨_, _, _, rfl, hE696, ?_⟩
          unfold FitR; rw [if_neg (by omega)]
          exact ⟨_, _, _, _, p, q, s, _, _, hsx, hsy, hr208, hr221, hPQ, by rw [if_pos (Decidable.of_not_not (by assumption))], hr586, hr600, hr634, by rw [if_neg (by assumption)]; exact ⟨_, hr651, hr663⟩⟩
         ·
          refine skip ?_
          refine kn626 _ _ ?_
          refine seqK fun Q698 kn699 kr700 ke701 => ?_
          refine region ?_
          refine st_q (v := .agg #[.int .i64 ((N.length : Nat) : Int), .float .f64 0, .float .f64 r599, .float .f64 0]) (x_loadA [.int .i64 ((N.length : Nat) : Int), .float .f64 0, .float .f64 r599, .float .f64 0] T.ag57 rfl (hB640.cells 0 [.int .i64 ((N.length : Nat) : Int), .float .f64 0, .float .f64 r599, .float .f64 0] (cells_at rfl))) ?_
          refine st_s (e_st (v := .agg #[.int .i64 ((N.length : Nat) : Int), .float .f64 0, .float .f64 r599, .float .f64 0]) T.sz57 rfl rfl hB638 (by simp [Value.cells]) (by rfl) ?_)
          intro w702 hP703
          have hB704 : Blk w702.heap w5.heap.size [.int .i64 ((N.length : Nat) : Int), .float .f64 0, .float .f64 r599, .float .f64 0] 57 := hP703.new
          have hs705 := hP703.size
          have hB706 := hB637.gk (hP703.grownBy) (hB638.rowk) (by decide)
          have hB707 := hB639.gk (hP703.grownBy) (hB638.rowk) (by decide)
          have hB708 := hB640.pt hP703 (by omega)
          have hF709 := hF641.gk (hP703.grownBy) (hB638.rowk) (by decide)
          have hE710 : Below w0.heap.size w0 w702 := hP703.below hE642 (by omega)
          have hz711 := hE710.le
          refine st_q (v := .int .i64 ((0 : Nat) : Int)) (x_assign rfl) ?_
          refine st_nil ?_
          refine kn699 _ _ ?_
          refine ret ?_
          refine leaveCT (P := Tryd.prog) (fn := Tryd.f24) (t := 6) (u := 7) (T := 57) (b := w5.heap.size) (o := 0) (cs := [.int .i64 ((N.length : Nat) : Int), .float .f64 0, .float .f64 r599, .float .f64 0]) (v := .int .i64 ((0 : Nat) : Int)) rfl T.ag57 rfl (hB704.cells 0 [.int .i64 ((N.length : Nat) : Int), .float .f64 0, .float .f64 r599, .float .f64 0] (cells_at rfl)) rfl ?_
          obtain rfl : i = N.length := by omega
          obtain rfl : j = N.length := by omega
          rw [← hN]
          refine ⟨_, _, _, rfl, hE710, ?_⟩
          unfold FitR; rw [if_neg (by omega)]
          exact ⟨_, _, _, _, p, q, s, _, _, hsx, hsy, hr208, hr221, hPQ, by rw [if_pos (Decidable.of_not_not (by assumption))], hr586, hr600, hr634, by rw [if_pos (Decidable.of_not_not (by assumption))]⟩

set_option maxHeartbeats 4000000 in
theorem turn26e (pr : ByteArray) (ar : Int) (L : List Row) (va : Value) (c d : Int) (w0 : World) (ha : Src w0.heap va L.length 1 (flat enR L)) (hL : RowsP w0.heap L) (hbad : ¬ rightB ar (tp L) [c, d]) : Calls Tryd.prog 26 #[.agg #[.string pr, .int .i64 ar, va], .int .i64 c, .int .i64 d] w0 fun e w' => e = .returned (.tuple #[.complex .f64 0 0, .int .i64 2]) ∧ Ext w0 w' := by
  have hE0 : Below w0.heap.size w0 w0 := Below.refl _ _
  have hz0 := hE0.le
  obtain ⟨a, ca, rfl, hca, hca1⟩ := ha.form
  refine enter Tryd.func26 rfl 55 Tryd.ntmps26 rfl ?_
  refine seqK fun Q1 kn2 kr3 ke4 => ?_
  refine region ?_
  refine st_e (e_box (v := .agg #[.string pr, .int .i64 ar, .slice a L.length ca]) rfl ?_)
  intro w5 hA6
  have hx7 := hA6.ext
  have hs8 := hA6.size
  have hB9 : Blk w5.heap w0.heap.size [.string pr, .int .i64 ar, .slice a L.length ca] 29 := hA6.new
  have hE10 : Below w0.heap.size w0 w5 := hx7.e hE0 (Nat.le_refl _)
  have hz11 := hE10.le
  have hs12 := hx7.size
  refine st_q (v := .complex .f64 0 0) (x_assign rfl) ?_
  refine st_q (v := .int .i64 ((0 : Nat) : Int)) (x_assign rfl) ?_
  refine st_nil ?_
  refine kn2 _ _ ?_
  refine seqK fun Q13 kn14 kr15 ke16 => ?_
  refine seqK fun Q17 kn18 kr19 ke20 => ?_
  refine region ?_
  refine st_q (v := .agg #[.string pr, .int .i64 ar, .slice a L.length ca]) (x_loadA [.string pr, .int .i64 ar, .slice a L.length ca] T.ag29 rfl (hB9.cells 0 [.string pr, .int .i64 ar, .slice a L.length ca] (cells_at rfl))) ?_
  refine st_q (v := .int .i64 c) (x_move rfl) ?_
  refine st_q (v := .int .i64 d) (x_move rfl) ?_
  refine st_e (e_buildSlice (cs := [.int .i64 c, .int .i64 d]) (e := 3) (fun _ => by kernel_rfl) ?_)
  intro w21 hA22
  have hx23 := hA22.ext
  have hs24 := hA22.size
  have hB25 : Blk w21.heap w5.heap.size [.int .i64 c, .int .i64 d] 3 := hA22.new
  have hB26 := hB9.ext hx23
  have hE27 : Below w0.heap.size w0 w21 := hx23.e hE10 (Nat.le_refl _)
  have hz28 := hE27.le
  have hs29 := hx23.size
  refine st_c (t_call [.agg #[.string pr, .int .i64 ar, .slice a L.length ca], .slice ((some ⟨w5.heap.size, 0, none⟩)) 2 2] T.cf39 rfl rfl) (right39 pr ar L _ [c, d] _ _ (ha.below hE27) (RowsP.below hL hE27) (hB25.src1 (k := 1) (m := 2) rfl (by omega))) ?_
  rintro _ w30 ⟨rfl, hx31⟩
  refine ⟨_, rfl, ?_⟩
  have hB32 := hB26.ext hx31
  have hB33 := hB25.ext hx31
  have hE34 : Below w0.heap.size w0 w30 := hx31.e hE27 (Nat.le_refl _)
  have hz35 := hE34.le
  have hs36 := hx31.size
  refine st_q (v := .bool (decide (¬ (rightB ar (tp L) [c, d])))) (x_notP rfl) ?_
  refine st_nil ?_
  refine kn18 _ _ ?_
  refine cnd (p := ¬ (rightB ar (tp L) [c, d])) rfl (fun h37 => ?_) (fun h37 => ?_)
  ·
   refine seqK fun Q38 kn39 kr40 ke41 => ?_
   refine region ?_
   refine st_q (v := .complex .f64 0 0) (x_assign rfl) ?_
   refine st_q (v := .int .i64 ((2 : Nat) : Int)) (x_assign rfl) ?_
   refine st_nil ?_
   refine kn39 _ _ ?_
   refine ret ?_
   refine kr15 _ _ ?_
   refine leave2 (P := Tryd.prog) (fn := Tryd.f26) (t := 6) (u := 7) (v := .complex .f64 0 0) (v' := .int .i64 ((2 : Nat) : Int)) rfl rfl rfl ?_
   exact ⟨rfl, hE34⟩
  ·
   exact absurd h37 (not_not_intro hbad)

set_option maxHeartbeats 4000000 in
theorem turn26 (pr : ByteArray) (ar : Int) (L : List Row) (va : Value) (c d : Nat) (w0 : World) (ha : Src w0.heap va L.length 1 (flat enR L)) (hL : RowsP w0.heap L) (hG : RightR ar (tp L)) (hC : badC ar ((c : Nat) : Int) = false) (hD : badC ar ((d : Nat) : Int) = false) (hn : L.length ≤ 1466015503701) (hsz : SizeL L) (hT : Laid w0) : Calls Tryd.prog 26 #[.agg #[.string pr, .int .i64 ar, va], .int .i64 ((c : Nat) : Int), .int .i64 ((d : Nat) : Int)] w0 fun e w' => ∃ u v, e = .returned (.tuple #[.complex .f64 u v, .int .i64 0]) ∧ Ext w0 w' ∧ TurnTo (ptsL c d (setL (tp L))) (ptsL c d (setL (tp L))).length u v := by
  have hE0 : Below w0.heap.size w0 w0 := Below.refl _ _
  have hz0 := hE0.le
  obtain ⟨a, ca, rfl, hca, hca1⟩ := ha.form
  have hC2 : c < 16 ∧ ((c : Nat) : Int) < ar := by
    unfold badC at hC
    have h2 := of_decide_eq_false hC
    have := hG.2.2
    omega
  have hD2 : d < 16 ∧ ((d : Nat) : Int) < ar := by
    unfold badC at hD
    have h2 := of_decide_eq_false hD
    have := hG.2.2
    omega
  have hR2 := right_two hG hC hD
  refine enter Tryd.func26 rfl 55 Tryd.ntmps26 rfl ?_
  refine seqK fun Q1 kn2 kr3 ke4 => ?_
  refine region ?_
  refine st_e (e_box (v := .agg #[.string pr, .int .i64 ar, .slice a L.length ca]) rfl ?_)
  intro w5 hA6
  have hx7 := hA6.ext
  have hs8 := hA6.size
  have hB9 : Blk w5.heap w0.heap.size [.string pr, .int .i64 ar, .slice a L.length ca] 29 := hA6.new
  have hE10 : Below w0.heap.size w0 w5 := hx7.e hE0 (Nat.le_refl _)
  have hz11 := hE10.le
  have hs12 := hx7.size
  refine st_q (v := .complex .f64 0 0) (x_assign rfl) ?_
  refine st_q (v := .int .i64 ((0 : Nat) : Int)) (x_assign rfl) ?_
  refine st_nil ?_
  refine kn2 _ _ ?_
  refine seqK fun Q13 kn14 kr15 ke16 => ?_
  refine seqK fun Q17 kn18 kr19 ke20 => ?_
  refine region ?_
  refine st_q (v := .agg #[.string pr, .int .i64 ar, .slice a L.length ca]) (x_loadA [.string pr, .int .i64 ar, .slice a L.length ca] T.ag29 rfl (hB9.cells 0 [.string pr, .int .i64 ar, .slice a L.length ca] (cells_at rfl))) ?_
  refine st_q (v := .int .i64 ((c : Nat) : Int)) (x_move rfl) ?_
  refine st_q (v := .int .i64 ((d : Nat) : Int)) (x_move rfl) ?_
  refine st_e (e_buildSlice (cs := [.int .i64 ((c : Nat) : Int), .int .i64 ((d : Nat) : Int)]) (e := 3) (fun _ => by kernel_rfl) ?_)
  intro w21 hA22
  have hx23 := hA22.ext
  have hs24 := hA22.size
  have hB25 : Blk w21.heap w5.heap.size [.int .i64 ((c : Nat) : Int), .int .i64 ((d : Nat) : Int)] 3 := hA22.new
  have hB26 := hB9.ext hx23
  have hE27 : Below w0.heap.size w0 w21 := hx23.e hE10 (Nat.le_refl _)
  have hz28 := hE27.le
  have hs29 := hx23.size
  refine st_c (t_call [.agg #[.string pr, .int .i64 ar, .slice a L.length ca], .slice ((some ⟨w5.heap.size, 0, none⟩)) 2 2] T.cf39 rfl rfl) (right39 pr ar L _ [((c : Nat) : Int), ((d : Nat) : Int)] _ _ (ha.below hE27) (RowsP.below hL hE27) (hB25.src1 (k := 1) (m := 2) rfl (by omega))) ?_
  rintro _ w30 ⟨rfl, hx31⟩
  refine ⟨_, rfl, ?_⟩
  have hB32 := hB26.ext hx31
  have hB33 := hB25.ext hx31
  have hE34 : Below w0.heap.size w0 w30 := hx31.e hE27 (Nat.le_refl _)
  have hz35 := hE34.le
  have hs36 := hx31.size
  refine st_q (v := .bool (decide (¬ (rightB ar (tp L) [((c : Nat) : Int), ((d : Nat) : Int)])))) (x_notP rfl) ?_
  refine st_nil ?_
  refine kn18 _ _ ?_
  refine cnd (p := ¬ (rightB ar (tp L) [((c : Nat) : Int), ((d : Nat) : Int)])) rfl (fun h37 => ?_) (fun h37 => ?_)
  ·
   exact absurd h37 (not_not_intro hR2)
  ·
   refine skip ?_
   refine kn14 _ _ ?_
   refine seqK fun Q38 kn39 kr40 ke41 => ?_
   refine region ?_
   refine st_q (v := .complex .f64 4607182418800017408 0) (x_assign rfl) ?_
   refine st_nil ?_
   refine kn39 _ _ ?_
   refine seqK fun Q42 kn43 kr44 ke45 => ?_
   refine seqK fun Q46 kn47 kr48 ke49 => ?_
   refine region ?_
   refine st_q (v := .agg #[.string pr, .int .i64 ar, .slice a L.length ca]) (x_loadA [.string pr, .int .i64 ar, .slice a L.length ca] T.ag29 rfl (hB32.cells 0 [.string pr, .int .i64 ar, .slice a L.length ca] (cells_at rfl))) ?_
   refine st_q (v := .int .i64 ((c : Nat) : Int)) (x_move rfl) ?_
   refine st_q (v := .int .i64 ((d : Nat) : Int)) (x_move rfl) ?_
   refine st_c (t_call [.agg #[.string pr, .int .i64 ar, .slice a L.length ca], .int .i64 ((c : Nat) : Int), .int .i64 ((d : Nat) : Int)] T.cf47 rfl rfl) (points47 pr ar L _ c d _ (ha.below hE34) (RowsP.below hL hE34) hG hC hD hn hsz (hT.below hE34)) ?_
   rintro _ w50 ⟨vN, rfl, hx51, hO52⟩
   refine ⟨_, rfl, ?_⟩
   have hB53 := hB32.ext hx51
   have hB54 := hB33.ext hx51
   have hE55 : Below w0.heap.size w0 w50 := hx51.e hE34 (Nat.le_refl _)
   have hz56 := hE55.le
   have hs57 := hx51.size
   have hNl : (ptsL c d (setL (tp L))).length ≤ L.length := Nat.le_trans (ptsL_len _ _ _) (by have h2 := setL_len (tp L); rw [tp_len] at h2; exact h2)
   obtain ⟨N, hN⟩ : ∃ N, N = (ptsL c d (setL (tp L))) := ⟨_, rfl⟩
   rw [← hN] at hO52 hNl
   obtain ⟨aN, cN, rfl, hcN, hcN1⟩ := hO52.src.form
   have hO58 := hO52.weak (lo' := w0.heap.size) (by omega)
   refine st_q (v := .int .i64 ((N.length : Nat) : Int)) (x_lenSl rfl Tryd.underlying95 rfl) ?_
   refine st_q (v := .int .i64 ((0 : Nat) : Int)) (x_move rfl) ?_
   refine st_nil ?_
   refine kn47 _ _ ?_
   refine blockK fun Q59 kn60 kr61 kx62 kb63 => ?_
   refine loopK (α := Nat × Nat × Nat) (fun x => [(8, .complex .f64 x.2.1 x.2.2), (24, .slice aN N.length cN), (25, .int .i64 ((N.length : Nat) : Int)), (26, .int .i64 ((x.1 : Nat) : Int))]) (fun x w64 => Ext w50 w64 ∧ x.1 ≤ N.length ∧ TurnTo N x.1 x.2.1 x.2.2) (fun x => N.length - x.1) (0, 4607182418800017408, 0) ⟨rfl, rfl, rfl, rfl, trivial⟩ ?_ ?_
   ·
    refine ⟨Below.refl _ _, ?_⟩
    try dsimp only
    exact ⟨Nat.zero_le _, rfl, rfl⟩
   ·
    rintro τ65 ⟨i, u, v⟩ w66 ⟨hx67, ⟨hi, hTu⟩⟩
    try dsimp only at hi hTu
    have hB68 := hB53.ext hx67
    have hB69 := hB54.ext hx67
    have hF70 := hO58.ext hx67
    have hE71 : Below w0.heap.size w0 w66 := hx67.e hE55 (Nat.le_refl _)
    have hz72 := hE71.le
    have hs73 := hx67.size
    intro Q74 kn75 kr76 ke77
    refine seqK fun Q78 kn79 kr80 ke81 => ?_
    refine region ?_
    refine st_q (v := .bool (decide (i < N.length))) (x_lssN rfl rfl) ?_
    refine st_nil ?_
    refine kn79 _ _ ?_
    refine seqK fun Q82 kn83 kr84 ke85 => ?_
    refine cnd (p := i < N.length) rfl (fun h86 => ?_) (fun h86 => ?_)
    ·
     refine skip ?_
     refine kn83 _ _ ?_
     refine seqK fun Q87 kn88 kr89 ke90 => ?_
     refine blockK fun Q91 kn92 kr93 kx94 kb95 => ?_
     refine seqK fun Q96 kn97 kr98 ke99 => ?_
     refine region ?_
     obtain ⟨b100, o101, ha102, hc103⟩ := hF70.src.at (by omega)
     refine st_q (v := .pointer (some ⟨b100, o101 + i * 1, none⟩)) (x_index' T.sl95 rfl ha102 rfl (by omega)) ?_
     refine st_q (v := .complex .f64 ((el N i).1) ((el N i).2)) (x_load1 T.na62 rfl (hc103.elem enC_len (i := i) (by omega))) ?_
     refine st_q (v := .complex .f64 ((el N i).1) ((el N i).2)) (x_assign rfl) ?_
     refine st_nil ?_
     refine kn97 _ _ ?_
     refine seqK fun Q104 kn105 kr106 ke107 => ?_
     refine region ?_
     refine st_q (v := .complex .f64 u v) (x_move rfl) ?_
     refine st_q (v := .float .f64 u) (x_real rfl) ?_
     refine st_q (v := .complex .f64 u v) (x_move rfl) ?_
     refine st_q (v := .float .f64 v) (x_imag rfl) ?_
     refine st_q (v := .complex .f64 ((el N i).1) ((el N i).2)) (x_move rfl) ?_
     refine st_q (v := .float .f64 ((el N i).1)) (x_real rfl) ?_
     refine st_q (v := .complex .f64 ((el N i).1) ((el N i).2)) (x_move rfl) ?_
     refine st_q (v := .float .f64 ((el N i).2)) (x_imag rfl) ?_
     refine st_q (v := .float .f64 u) (x_assign rfl) ?_
     refine st_q (v := .float .f64 v) (x_assign rfl) ?_
     refine st_q (v := .float .f64 ((el N i).1)) (x_assign rfl) ?_
     refine st_q (v := .float .f64 ((el N i).2)) (x_assign rfl) ?_
     refine st_nil ?_
     refine kn105 _ _ ?_
     refine region ?_
     refine st_q (v := .float .f64 u) (x_move rfl) ?_
     refine st_q (v := .float .f64 ((el N i).1)) (x_move rfl) ?_
     refine st_e (e_mulF (a := u) (b := ((el N i).1)) rfl rfl ?_)
     intro r108 w110 hr109 hx111
     have hB112 := hB68.ext hx111
     have hB113 := hB69.ext hx111
     have hF114 := hF70.ext hx111
     have hF115 := hx111.e hx67 (Nat.le_refl _)
     have hF116 := hc103.ext hx111
     have hE117 : Below w0.heap.size w0 w110 := hx111.e hE71 (Nat.le_refl _)
     have hz118 := hE117.le
     have hs119 := hx111.size
     refine st_q (v := .float .f64 v) (x_move rfl) ?_
     refine st_q (v := .float .f64 ((el N i).2)) (x_move rfl) ?_
     refine st_e (e_mulF (a := v) (b := ((el N i).2)) rfl rfl ?_)
     intro r120 w122 hr121 hx123
     have hB124 := hB112.ext hx123
     have hB125 := hB113.ext hx123
     have hF126 := hF114.ext hx123
     have hF127 := hx123.e hF115 (Nat.le_refl _)
     have hF128 := hF116.ext hx123
     have hE129 : Below w0.heap.size w0 w122 := hx123.e hE117 (Nat.le_refl _)
     have hz130 := hE129.le
     have hs131 := hx123.size
     refine st_e (e_subF (a := r108) (b := r120) rfl rfl ?_)
     intro r132 w134 hr133 hx135
     have hB136 := hB124.ext hx135
     have hB137 := hB125.ext hx135
     have hF138 := hF126.ext hx135
     have hF139 := hx135.e hF127 (Nat.le_refl _)
     have hF140 := hF128.ext hx135
     have hE141 : Below w0.heap.size w0 w134 := hx135.e hE129 (Nat.le_refl _)
     have hz142 := hE141.le
     have hs143 := hx135.size
     refine st_q (v := .float .f64 u) (x_move rfl) ?_
     refine st_q (v := .float .f64 ((el N i).2)) (x_move rfl) ?_
     refine st_e (e_mulF (a := u) (b := ((el N i).2)) rfl rfl ?_)
     intro r144 w146 hr145 hx147
     have hB148 := hB136.ext hx147
     have hB149 := hB137.ext hx147
     have hF150 := hF138.ext hx147
     have hF151 := hx147.e hF139 (Nat.le_refl _)
     have hF152 := hF140.ext hx147
     have hE153 : Below w0.heap.size w0 w146 := hx147.e hE141 (Nat.le_refl _)
     have hz154 := hE153.le
     have hs155 := hx147.size
     refine st_q (v := .float .f64 v) (x_move rfl) ?_
     refine st_q (v := .float .f64 ((el N i).1)) (x_move rfl) ?_
     refine st_e (e_mulF (a := v) (b := ((el N i).1)) rfl rfl ?_)
     intro r156 w158 hr157 hx159
     have hB160 := hB148.ext hx159
     have hB161 := hB149.ext hx159
     have hF162 := hF150.ext hx159
     have hF163 := hx159.e hF151 (Nat.le_refl _)
     have hF164 := hF152.ext hx159
     have hE165 : Below w0.heap.size w0 w158 := hx159.e hE153 (Nat.le_refl _)
     have hz166 := hE165.le
     have hs167 := hx159.size
     refine st_e (e_addF (a := r144) (b := r156) rfl rfl ?_)
     intro r168 w170 hr169 hx171
     have hB172 := hB160.ext hx171
     have hB173 := hB161.ext hx171
     have hF174 := hF162.ext hx171
     have hF175 := hx171.e hF163 (Nat.le_refl _)
     have hF176 := hF164.ext hx171
     have hE177 : Below w0.heap.size w0 w170 := hx171.e hE165 (Nat.le_refl _)
     have hz178 := hE177.le
     have hs179 := hx171.size
     refine st_q (v := .complex .f64 r132 r168) (x_complex rfl rfl) ?_
     refine st_q (v := .complex .f64 r132 r168) (x_assign rfl) ?_
     refine st_nil ?_
     refine kn92 _ _ ?_
     refine kn88 _ _ ?_
     refine region ?_
     refine st_q (v := .int .i64 (((i + 1) : Nat) : Int)) (x_addN rfl rfl (by omega)) ?_
     refine st_q (v := .int .i64 (((i + 1) : Nat) : Int)) (x_move rfl) ?_
     refine st_nil ?_
     refine kn75 _ ((i + 1), r132, r168) _ ⟨rfl, rfl, rfl, rfl, trivial⟩ ⟨hF175, ?_⟩ ?_
     ·
      try dsimp only
      exact ⟨by omega, _, _, _, _, _, _, hTu, hr109, hr121, hr133, hr145, hr157, hr169⟩
     ·
      (try dsimp only); omega
    ·
     refine exit ?_
     refine ke85 _ _ _ ?_
     refine ke77 _ _ _ ?_
     refine kb63 _ _ ?_
     refine kn43 _ _ ?_
     refine seqK fun Q180 kn181 kr182 ke183 => ?_
     refine region ?_
     refine st_q (v := .complex .f64 u v) (x_move rfl) ?_
     refine st_q (v := .complex .f64 u v) (x_assign rfl) ?_
     refine st_q (v := .int .i64 ((0 : Nat) : Int)) (x_assign rfl) ?_
     refine st_nil ?_
     refine kn181 _ _ ?_
     refine ret ?_
     refine leave2 (P := Tryd.prog) (fn := Tryd.f26) (t := 6) (u := 7) (v := .complex .f64 u v) (v' := .int .i64 ((0 : Nat) : Int)) rfl rfl rfl ?_
     obtain rfl : i = N.length := by omega
     rw [← hN]
     exact ⟨_, _, rfl, hE71, hTu⟩

theorem right_three {ar c d : Int} {P : List Tup} (hG : RightR ar P) (hC : ColsOK ar [c]) (hD : ColsOK ar [d]) : rightB ar P [c, d] :=
  ⟨hG, fun i hi => by
    have h2 : i < 2 := hi
    rcases (show i = 0 ∨ i = 1 by omega) with rfl | rfl
    · exact colsOK_one.1 hC
    · exact colsOK_one.1 hD⟩
set_option maxHeartbeats 4000000 in
theorem reffit25e (pr : ByteArray) (ar : Int) (L : List Row) (va : Value) (c d : Int) (w0 : World) (ha : Src w0.heap va L.length 1 (flat enR L)) (hL : RowsP w0.heap L) (hbad : ¬ rightB ar (tp L) [c, d]) : Calls Tryd.prog 25 #[.agg #[.string pr, .int .i64 ar, va], .int .i64 c, .int .i64 d] w0 fun e w' => e = .returned (.tuple #[.agg #[.int .i64 0, .float .f64 0, .float .f64 0, .float .f64 0], .int .i64 2]) ∧ Ext w0 w' := by
  have hE0 : Below w0.heap.size w0 w0 := Below.refl _ _
  have hz0 := hE0.le
  obtain ⟨a, ca, rfl, hca, hca1⟩ := ha.form
  refine enter Tryd.func25 rfl 122 Tryd.ntmps25 rfl ?_
  refine seqK fun Q1 kn2 kr3 ke4 => ?_
  refine region ?_
  refine st_e (e_box (v := .agg #[.string pr, .int .i64 ar, .slice a L.length ca]) rfl ?_)
  intro w5 hA6
  have hx7 := hA6.ext
  have hs8 := hA6.size
  have hB9 : Blk w5.heap w0.heap.size [.string pr, .int .i64 ar, .slice a L.length ca] 29 := hA6.new
  have hE10 : Below w0.heap.size w0 w5 := hx7.e hE0 (Nat.le_refl _)
  have hz11 := hE10.le
  have hs12 := hx7.size
  refine st_e (e_alloc T.zv57 ?_)
  intro w13 hA14
  have hx15 := hA14.ext
  have hs16 := hA14.size
  have hB17 : Blk w13.heap w5.heap.size [.int .i64 ((0 : Nat) : Int), .float .f64 0, .float .f64 0, .float .f64 0] 57 := hA14.new
  have hB18 := hB9.ext hx15
  have hE19 : Below w0.heap.size w0 w13 := hx15.e hE10 (Nat.le_refl _)
  have hz20 := hE19.le
  have hs21 := hx15.size
  refine st_q (v := .int .i64 ((0 : Nat) : Int)) (x_assign rfl) ?_
  refine st_nil ?_
  refine kn2 _ _ ?_
  refine seqK fun Q22 kn23 kr24 ke25 => ?_
  refine seqK fun Q26 kn27 kr28 ke29 => ?_
  refine region ?_
  refine st_q (v := .agg #[.string pr, .int .i64 ar, .slice a L.length ca]) (x_loadA [.string pr, .int .i64 ar, .slice a L.length ca] T.ag29 rfl (hB18.cells 0 [.string pr, .int .i64 ar, .slice a L.length ca] (cells_at rfl))) ?_
  refine st_c (t_call [.agg #[.string pr, .int .i64 ar, .slice a L.length ca]] T.cf34 rfl rfl) (right34 pr ar L _ _ (ha.below hE19) (RowsP.below hL hE19)) ?_
  rintro _ w30 ⟨rfl, hx31⟩
  refine ⟨_, rfl, ?_⟩
  have hB32 := hB18.ext hx31
  have hB33 := hB17.ext hx31
  have hE34 : Below w0.heap.size w0 w30 := hx31.e hE19 (Nat.le_refl _)
  have hz35 := hE34.le
  have hs36 := hx31.size
  refine st_q (v := .bool (decide (¬ (RightR ar (tp L))))) (x_notP rfl) ?_
  refine st_if (p := ¬ (RightR ar (tp L))) (x_move rfl) (fun h37 => ?_) (fun h37 => ?_)
  ·
   refine st_gn 3 25 rfl rfl (by decide) rfl ?_
   refine st_gn 3 25 rfl rfl (by decide) rfl ?_
   refine st_gn 3 25 rfl rfl (by decide) rfl ?_
   refine st_gn 3 25 rfl rfl (by decide) rfl ?_
   refine st_gn 3 25 rfl rfl (by decide) rfl ?_
   refine st_q (v := .bool true) (x_pickT rfl rfl) ?_
   refine st_q (v := .bool true) (x_move rfl) ?_
   refine st_gn 10 32 rfl rfl (by decide) rfl ?_
   refine st_gn 10 32 rfl rfl (by decide) rfl ?_
   refine st_gn 10 32 rfl rfl (by decide) rfl ?_
   refine st_gn 10 32 rfl rfl (by decide) rfl ?_
   refine st_gn 10 32 rfl rfl (by decide) rfl ?_
   refine st_q (v := .bool true) (x_pickT rfl rfl) ?_
   refine st_nil ?_
   refine kn27 _ _ ?_
   refine cndT rfl ?_
   refine seqK fun Q38 kn39 kr40 ke41 => ?_
   refine region ?_
   refine st_q (v := .agg #[.int .i64 ((0 : Nat) : Int), .float .f64 0, .float .f64 0, .float .f64 0]) (x_build (fun _ => by kernel_rfl)) ?_
   refine st_s (e_st (v := .agg #[.int .i64 ((0 : Nat) : Int), .float .f64 0, .float .f64 0, .float .f64 0]) T.sz57 rfl rfl hB33 (by simp [Value.cells]) (by rfl) ?_)
   intro w42 hP43
   have hB44 : Blk w42.heap w5.heap.size [.int .i64 ((0 : Nat) : Int), .float .f64 0, .float .f64 0, .float .f64 0] 57 := hP43.new
   have hs45 := hP43.size
   have hB46 := hB32.gk (hP43.grownBy) (hB33.rowk) (by decide)
   have hE47 : Below w0.heap.size w0 w42 := hP43.below hE34 (by omega)
   have hz48 := hE47.le
   refine st_q (v := .int .i64 ((2 : Nat) : Int)) (x_assign rfl) ?_
   refine st_nil ?_
   refine kn39 _ _ ?_
   refine ret ?_
   refine kr24 _ _ ?_
   refine leaveCT (P := Tryd.prog) (fn := Tryd.f25) (t := 6) (u := 7) (T := 57) (b := w5.heap.size) (o := 0) (cs := [.int .i64 ((0 : Nat) : Int), .float .f64 0, .float .f64 0, .float .f64 0]) (v := .int .i64 ((2 : Nat) : Int)) rfl T.ag57 rfl (hB44.cells 0 [.int .i64 ((0 : Nat) : Int), .float .f64 0, .float .f64 0, .float .f64 0] (cells_at rfl)) rfl ?_
   exact ⟨rfl, hE47⟩
  ·
   refine st_gq 3 25 rfl rfl (by decide) ?_
   refine st_q (v := .agg #[.string pr, .int .i64 ar, .slice a L.length ca]) (x_loadA [.string pr, .int .i64 ar, .slice a L.length ca] T.ag29 rfl (hB32.cells 0 [.string pr, .int .i64 ar, .slice a L.length ca] (cells_at rfl))) ?_
   refine st_gq 3 25 rfl rfl (by decide) ?_
   refine st_q (v := .int .i64 c) (x_move rfl) ?_
   refine st_gq 3 25 rfl rfl (by decide) ?_
   refine st_e (e_buildSlice (cs := [.int .i64 c]) (e := 3) (fun _ => by kernel_rfl) ?_)
   intro w49 hA50
   have hx51 := hA50.ext
   have hs52 := hA50.size
   have hB53 : Blk w49.heap w30.heap.size [.int .i64 c] 3 := hA50.new
   have hB54 := hB32.ext hx51
   have hB55 := hB33.ext hx51
   have hE56 : Below w0.heap.size w0 w49 := hx51.e hE34 (Nat.le_refl _)
   have hz57 := hE56.le
   have hs58 := hx51.size
   refine st_gq 3 25 rfl rfl (by decide) ?_
   refine st_c (t_call [.agg #[.string pr, .int .i64 ar, .slice a L.length ca], .slice ((some ⟨w30.heap.size, 0, none⟩)) 1 1] T.cf35 rfl rfl) (columns35 pr ar _ [c] _ _ (hB53.src1 (k := 1) (m := 1) rfl (by omega))) ?_
   rintro _ w59 ⟨rfl, hx60⟩
   refine ⟨_, rfl, ?_⟩
   have hB61 := hB54.ext hx60
   have hB62 := hB55.ext hx60
   have hB63 := hB53.ext hx60
   have hE64 : Below w0.heap.size w0 w59 := hx60.e hE56 (Nat.le_refl _)
   have hz65 := hE64.le
   have hs66 := hx60.size
   refine st_gq 3 25 rfl rfl (by decide) ?_
   refine st_q (v := .bool (decide (¬ (ColsOK ar [c])))) (x_notP rfl) ?_
   refine st_q (v := .bool (decide (¬ (ColsOK ar [c])))) (x_pickF rfl rfl) ?_
   refine st_if (p := ¬ (ColsOK ar [c])) (x_move rfl) (fun h67 => ?_) (fun h67 => ?_)
   ·
    refine st_gn 10 32 rfl rfl (by decide) rfl ?_
    refine st_gn 10 32 rfl rfl (by decide) rfl ?_
    refine st_gn 10 32 rfl rfl (by decide) rfl ?_
    refine st_gn 10 32 rfl rfl (by decide) rfl ?_
    refine st_gn 10 32 rfl rfl (by decide) rfl ?_
    refine st_q (v := .bool true) (x_pickT rfl rfl) ?_
    refine st_nil ?_
    refine kn27 _ _ ?_
    refine cndT rfl ?_
    refine seqK fun Q68 kn69 kr70 ke71 => ?_
    refine region ?_
    refine st_q (v := .agg #[.int .i64 ((0 : Nat) : Int), .float .f64 0, .float .f64 0, .float .f64 0]) (x_build (fun _ => by kernel_rfl)) ?_
    refine st_s (e_st (v := .agg #[.int .i64 ((0 : Nat) : Int), .float .f64 0, .float .f64 0, .float .f64 0]) T.sz57 rfl rfl hB62 (by simp [Value.cells]) (by rfl) ?_)
    intro w72 hP73
    have hB74 : Blk w72.heap w5.heap.size [.int .i64 ((0 : Nat) : Int), .float .f64 0, .float .f64 0, .float .f64 0] 57 := hP73.new
    have hs75 := hP73.size
    have hB76 := hB61.gk (hP73.grownBy) (hB62.rowk) (by decide)
    have hB77 := hB63.gk (hP73.grownBy) (hB62.rowk) (by decide)
    have hE78 : Below w0.heap.size w0 w72 := hP73.below hE64 (by omega)
    have hz79 := hE78.le
    refine st_q (v := .int .i64 ((2 : Nat) : Int)) (x_assign rfl) ?_
    refine st_nil ?_
    refine kn69 _ _ ?_
    refine ret ?_
    refine kr24 _ _ ?_
    refine leaveCT (P := Tryd.prog) (fn := Tryd.f25) (t := 6) (u := 7) (T := 57) (b := w5.heap.size) (o := 0) (cs := [.int .i64 ((0 : Nat) : Int), .float .f64 0, .float .f64 0, .float .f64 0]) (v := .int .i64 ((2 : Nat) : Int)) rfl T.ag57 rfl (hB74.cells 0 [.int .i64 ((0 : Nat) : Int), .float .f64 0, .float .f64 0, .float .f64 0] (cells_at rfl)) rfl ?_
    exact ⟨rfl, hE78⟩
   ·
    refine st_gq 10 32 rfl rfl (by decide) ?_
    refine st_q (v := .agg #[.string pr, .int .i64 ar, .slice a L.length ca]) (x_loadA [.string pr, .int .i64 ar, .slice a L.length ca] T.ag29 rfl (hB61.cells 0 [.string pr, .int .i64 ar, .slice a L.length ca] (cells_at rfl))) ?_
    refine st_gq 10 32 rfl rfl (by decide) ?_
    refine st_q (v := .int .i64 d) (x_move rfl) ?_
    refine st_gq 10 32 rfl rfl (by decide) ?_
    refine st_e (e_buildSlice (cs := [.int .i64 d]) (e := 3) (fun _ => by kernel_rfl) ?_)
    intro w80 hA81
    have hx82 := hA81.ext
    have hs83 := hA81.size
    have hB84 : Blk w80.heap w59.heap.size [.int .i64 d] 3 := hA81.new
    have hB85 := hB61.ext hx82
    have hB86 := hB62.ext hx82
    have hB87 := hB63.ext hx82
    have hE88 : Below w0.heap.size w0 w80 := hx82.e hE64 (Nat.le_refl _)
    have hz89 := hE88.le
    have hs90 := hx82.size
    refine st_gq 10 32 rfl rfl (by decide) ?_
    refine st_c (t_call [.agg #[.string pr, .int .i64 ar, .slice a L.length ca], .slice ((some ⟨w59.heap.size, 0, none⟩)) 1 1] T.cf35 rfl rfl) (columns35 pr ar _ [d] _ _ (hB84.src1 (k := 1) (m := 1) rfl (by omega))) ?_
    rintro _ w91 ⟨rfl, hx92⟩
    refine ⟨_, rfl, ?_⟩
    have hB93 := hB85.ext hx92
    have hB94 := hB86.ext hx92
    have hB95 := hB87.ext hx92
    have hB96 := hB84.ext hx92
    have hE97 : Below w0.heap.size w0 w91 := hx92.e hE88 (Nat.le_refl _)
    have hz98 := hE97.le
    have hs99 := hx92.size
    refine st_gq 10 32 rfl rfl (by decide) ?_
    refine st_q (v := .bool (decide (¬ (ColsOK ar [d])))) (x_notP rfl) ?_
    refine st_q (v := .bool (decide (¬ (ColsOK ar [d])))) (x_pickF rfl rfl) ?_
    refine st_nil ?_
    refine kn27 _ _ ?_
    refine cnd (p := ¬ (ColsOK ar [d])) rfl (fun h100 => ?_) (fun h100 => ?_)
    ·
     refine seqK fun Q101 kn102 kr103 ke104 => ?_
     refine region ?_
     refine st_q (v := .agg #[.int .i64 ((0 : Nat) : Int), .float .f64 0, .float .f64 0, .float .f64 0]) (x_build (fun _ => by kernel_rfl)) ?_
     refine st_s (e_st (v := .agg #[.int .i64 ((0 : Nat) : Int), .float .f64 0, .float .f64 0, .float .f64 0]) T.sz57 rfl rfl hB94 (by simp [Value.cells]) (by rfl) ?_)
     intro w105 hP106
     have hB107 : Blk w105.heap w5.heap.size [.int .i64 ((0 : Nat) : Int), .float .f64 0, .float .f64 0, .float .f64 0] 57 := hP106.new
     have hs108 := hP106.size
     have hB109 := hB93.gk (hP106.grownBy) (hB94.rowk) (by decide)
     have hB110 := hB95.gk (hP106.grownBy) (hB94.rowk) (by decide)
     have hB111 := hB96.gk (hP106.grownBy) (hB94.rowk) (by decide)
     have hE112 : Below w0.heap.size w0 w105 := hP106.below hE97 (by omega)
     have hz113 := hE112.le
     refine st_q (v := .int .i64 ((2 : Nat) : Int)) (x_assign rfl) ?_
     refine st_nil ?_
     refine kn102 _ _ ?_
     refine ret ?_
     refine kr24 _ _ ?_
     refine leaveCT (P := Tryd.prog) (fn := Tryd.f25) (t := 6) (u := 7) (T := 57) (b := w5.heap.size) (o := 0) (cs := [.int .i64 ((0 : Nat) : Int), .float .f64 0, .float .f64 0, .float .f64 0]) (v := .int .i64 ((2 : Nat) : Int)) rfl T.ag57 rfl (hB107.cells 0 [.int .i64 ((0 : Nat) : Int), .float .f64 0, .float .f64 0, .float .f64 0] (cells_at rfl)) rfl ?_
     exact ⟨rfl, hE112⟩
    ·
     exact absurd h100 (not_not_intro fun hd => hbad (right_three (Decidable.of_not_not (by assumption)) (Decidable.of_not_not (by assumption)) hd))

set_option maxHeartbeats 4000000 in
theorem refturn27e (pr : ByteArray) (ar : Int) (L : List Row) (va : Value) (c d : Int) (w0 : World) (ha : Src w0.heap va L.length 1 (flat enR L)) (hL : RowsP w0.heap L) (hbad : ¬ rightB ar (tp L) [c, d]) : Calls Tryd.prog 27 #[.agg #[.string pr, .int .i64 ar, va], .int .i64 c, .int .i64 d] w0 fun e w' => e = .returned (.tuple #[.float .f64 0, .float .f64 0, .int .i64 2]) ∧ Ext w0 w' := by
  have hE0 : Below w0.heap.size w0 w0 := Below.refl _ _
  have hz0 := hE0.le
  obtain ⟨a, ca, rfl, hca, hca1⟩ := ha.form
  refine enter Tryd.func27 rfl 76 Tryd.ntmps27 rfl ?_
  refine seqK fun Q1 kn2 kr3 ke4 => ?_
  refine region ?_
  refine st_e (e_box (v := .agg #[.string pr, .int .i64 ar, .slice a L.length ca]) rfl ?_)
  intro w5 hA6
  have hx7 := hA6.ext
  have hs8 := hA6.size
  have hB9 : Blk w5.heap w0.heap.size [.string pr, .int .i64 ar, .slice a L.length ca] 29 := hA6.new
  have hE10 : Below w0.heap.size w0 w5 := hx7.e hE0 (Nat.le_refl _)
  have hz11 := hE10.le
  have hs12 := hx7.size
  refine st_q (v := .float .f64 0) (x_assign rfl) ?_
  refine st_q (v := .float .f64 0) (x_assign rfl) ?_
  refine st_q (v := .int .i64 ((0 : Nat) : Int)) (x_assign rfl) ?_
  refine st_nil ?_
  refine kn2 _ _ ?_
  refine seqK fun Q13 kn14 kr15 ke16 => ?_
  refine seqK fun Q17 kn18 kr19 ke20 => ?_
  refine region ?_
  refine st_q (v := .agg #[.string pr, .int .i64 ar, .slice a L.length ca]) (x_loadA [.string pr, .int .i64 ar, .slice a L.length ca] T.ag29 rfl (hB9.cells 0 [.string pr, .int .i64 ar, .slice a L.length ca] (cells_at rfl))) ?_
  refine st_c (t_call [.agg #[.string pr, .int .i64 ar, .slice a L.length ca]] T.cf34 rfl rfl) (right34 pr ar L _ _ (ha.below hE10) (RowsP.below hL hE10)) ?_
  rintro _ w21 ⟨rfl, hx22⟩
  refine ⟨_, rfl, ?_⟩
  have hB23 := hB9.ext hx22
  have hE24 : Below w0.heap.size w0 w21 := hx22.e hE10 (Nat.le_refl _)
  have hz25 := hE24.le
  have hs26 := hx22.size
  refine st_q (v := .bool (decide (¬ (RightR ar (tp L))))) (x_notP rfl) ?_
  refine st_if (p := ¬ (RightR ar (tp L))) (x_move rfl) (fun h27 => ?_) (fun h27 => ?_)
  ·
   refine st_gn 3 19 rfl rfl (by decide) rfl ?_
   refine st_gn 3 19 rfl rfl (by decide) rfl ?_
   refine st_gn 3 19 rfl rfl (by decide) rfl ?_
   refine st_gn 3 19 rfl rfl (by decide) rfl ?_
   refine st_gn 3 19 rfl rfl (by decide) rfl ?_
   refine st_q (v := .bool true) (x_pickT rfl rfl) ?_
   refine st_q (v := .bool true) (x_move rfl) ?_
   refine st_gn 10 26 rfl rfl (by decide) rfl ?_
   refine st_gn 10 26 rfl rfl (by decide) rfl ?_
   refine st_gn 10 26 rfl rfl (by decide) rfl ?_
   refine st_gn 10 26 rfl rfl (by decide) rfl ?_
   refine st_gn 10 26 rfl rfl (by decide) rfl ?_
   refine st_q (v := .bool true) (x_pickT rfl rfl) ?_
   refine st_nil ?_
   refine kn18 _ _ ?_
   refine cndT rfl ?_
   refine seqK fun Q28 kn29 kr30 ke31 => ?_
   refine region ?_
   refine st_q (v := .float .f64 0) (x_assign rfl) ?_
   refine st_q (v := .float .f64 0) (x_assign rfl) ?_
   refine st_q (v := .int .i64 ((2 : Nat) : Int)) (x_assign rfl) ?_
   refine st_nil ?_
   refine kn29 _ _ ?_
   refine ret ?_
   refine kr15 _ _ ?_
   refine leave3 (P := Tryd.prog) (fn := Tryd.f27) (t := 6) (u := 7) (s := 8) (v := .float .f64 0) (v' := .float .f64 0) (v'' := .int .i64 ((2 : Nat) : Int)) rfl rfl rfl rfl ?_
   exact ⟨rfl, hE24⟩
  ·
   refine st_gq 3 19 rfl rfl (by decide) ?_
   refine st_q (v := .agg #[.string pr, .int .i64 ar, .slice a L.length ca]) (x_loadA [.string pr, .int .i64 ar, .slice a L.length ca] T.ag29 rfl (hB23.cells 0 [.string pr, .int .i64 ar, .slice a L.length ca] (cells_at rfl))) ?_
   refine st_gq 3 19 rfl rfl (by decide) ?_
   refine st_q (v := .int .i64 c) (x_move rfl) ?_
   refine st_gq 3 19 rfl rfl (by decide) ?_
   refine st_e (e_buildSlice (cs := [.int .i64 c]) (e := 3) (fun _ => by kernel_rfl) ?_)
   intro w32 hA33
   have hx34 := hA33.ext
   have hs35 := hA33.size
   have hB36 : Blk w32.heap w21.heap.size [.int .i64 c] 3 := hA33.new
   have hB37 := hB23.ext hx34
   have hE38 : Below w0.heap.size w0 w32 := hx34.e hE24 (Nat.le_refl _)
   have hz39 := hE38.le
   have hs40 := hx34.size
   refine st_gq 3 19 rfl rfl (by decide) ?_
   refine st_c (t_call [.agg #[.string pr, .int .i64 ar, .slice a L.length ca], .slice ((some ⟨w21.heap.size, 0, none⟩)) 1 1] T.cf35 rfl rfl) (columns35 pr ar _ [c] _ _ (hB36.src1 (k := 1) (m := 1) rfl (by omega))) ?_
   rintro _ w41 ⟨rfl, hx42⟩
   refine ⟨_, rfl, ?_⟩
   have hB43 := hB37.ext hx42
   have hB44 := hB36.ext hx42
   have hE45 : Below w0.heap.size w0 w41 := hx42.e hE38 (Nat.le_refl _)
   have hz46 := hE45.le
   have hs47 := hx42.size
   refine st_gq 3 19 rfl rfl (by decide) ?_
   refine st_q (v := .bool (decide (¬ (ColsOK ar [c])))) (x_notP rfl) ?_
   refine st_q (v := .bool (decide (¬ (ColsOK ar [c])))) (x_pickF rfl rfl) ?_
   refine st_if (p := ¬ (ColsOK ar [c])) (x_move rfl) (fun h48 => ?_) (fun h48 => ?_)
   ·
    refine st_gn 10 26 rfl rfl (by decide) rfl ?_
    refine st_gn 10 26 rfl rfl (by decide) rfl ?_
    refine st_gn 10 26 rfl rfl (by decide) rfl ?_
    refine st_gn 10 26 rfl rfl (by decide) rfl ?_
    refine st_gn 10 26 rfl rfl (by decide) rfl ?_
    refine st_q (v := .bool true) (x_pickT rfl rfl) ?_
    refine st_nil ?_
    refine kn18 _ _ ?_
    refine cndT rfl ?_
    refine seqK fun Q49 kn50 kr51 ke52 => ?_
    refine region ?_
    refine st_q (v := .float .f64 0) (x_assign rfl) ?_
    refine st_q (v := .float .f64 0) (x_assign rfl) ?_
    refine st_q (v := .int .i64 ((2 : Nat) : Int)) (x_assign rfl) ?_
    refine st_nil ?_
    refine kn50 _ _ ?_
    refine ret ?_
    refine kr15 _ _ ?_
    refine leave3 (P := Tryd.prog) (fn := Tryd.f27) (t := 6) (u := 7) (s := 8) (v := .float .f64 0) (v' := .float .f64 0) (v'' := .int .i64 ((2 : Nat) : Int)) rfl rfl rfl rfl ?_
    exact ⟨rfl, hE45⟩
   ·
    refine st_gq 10 26 rfl rfl (by decide) ?_
    refine st_q (v := .agg #[.string pr, .int .i64 ar, .slice a L.length ca]) (x_loadA [.string pr, .int .i64 ar, .slice a L.length ca] T.ag29 rfl (hB43.cells 0 [.string pr, .int .i64 ar, .slice a L.length ca] (cells_at rfl))) ?_
    refine st_gq 10 26 rfl rfl (by decide) ?_
    refine st_q (v := .int .i64 d) (x_move rfl) ?_
    refine st_gq 10 26 rfl rfl (by decide) ?_
    refine st_e (e_buildSlice (cs := [.int .i64 d]) (e := 3) (fun _ => by kernel_rfl) ?_)
    intro w53 hA54
    have hx55 := hA54.ext
    have hs56 := hA54.size
    have hB57 : Blk w53.heap w41.heap.size [.int .i64 d] 3 := hA54.new
    have hB58 := hB43.ext hx55
    have hB59 := hB44.ext hx55
    have hE60 : Below w0.heap.size w0 w53 := hx55.e hE45 (Nat.le_refl _)
    have hz61 := hE60.le
    have hs62 := hx55.size
    refine st_gq 10 26 rfl rfl (by decide) ?_
    refine st_c (t_call [.agg #[.string pr, .int .i64 ar, .slice a L.length ca], .slice ((some ⟨w41.heap.size, 0, none⟩)) 1 1] T.cf35 rfl rfl) (columns35 pr ar _ [d] _ _ (hB57.src1 (k := 1) (m := 1) rfl (by omega))) ?_
    rintro _ w63 ⟨rfl, hx64⟩
    refine ⟨_, rfl, ?_⟩
    have hB65 := hB58.ext hx64
    have hB66 := hB59.ext hx64
    have hB67 := hB57.ext hx64
    have hE68 : Below w0.heap.size w0 w63 := hx64.e hE60 (Nat.le_refl _)
    have hz69 := hE68.le
    have hs70 := hx64.size
    refine st_gq 10 26 rfl rfl (by decide) ?_
    refine st_q (v := .bool (decide (¬ (ColsOK ar [d])))) (x_notP rfl) ?_
    refine st_q (v := .bool (decide (¬ (ColsOK ar [d])))) (x_pickF rfl rfl) ?_
    refine st_nil ?_
    refine kn18 _ _ ?_
    refine cnd (p := ¬ (ColsOK ar [d])) rfl (fun h71 => ?_) (fun h71 => ?_)
    ·
     refine seqK fun Q72 kn73 kr74 ke75 => ?_
     refine region ?_
     refine st_q (v := .float .f64 0) (x_assign rfl) ?_
     refine st_q (v := .float .f64 0) (x_assign rfl) ?_
     refine st_q (v := .int .i64 ((2 : Nat) : Int)) (x_assign rfl) ?_
     refine st_nil ?_
     refine kn73 _ _ ?_
     refine ret ?_
     refine kr15 _ _ ?_
     refine leave3 (P := Tryd.prog) (fn := Tryd.f27) (t := 6) (u := 7) (s := 8) (v := .float .f64 0) (v' := .float .f64 0) (v'' := .int .i64 ((2 : Nat) : Int)) rfl rfl rfl rfl ?_
     exact ⟨rfl, hE68⟩
    ·
     exact absurd h71 (not_not_intro fun hd => hbad (right_three (Decidable.of_not_not (by assumption)) (Decidable.of_not_not (by assumption)) hd))

set_option maxHeartbeats 4000000 in
theorem reffit25 (pr : ByteArray) (ar : Int) (L : List Row) (va : Value) (c d : Nat) (w0 : World) (ha : Src w0.heap va L.length 1 (flat enR L)) (hL : RowsP w0.heap L) (hG : RightR ar (tp L)) (hC : badC ar ((c : Nat) : Int) = false) (hD : badC ar ((d : Nat) : Int) = false) (hn : L.length ≤ 1466015503701) (hsz : SizeL L) : Calls Tryd.prog 25 #[.agg #[.string pr, .int .i64 ar, va], .int .i64 ((c : Nat) : Int), .int .i64 ((d : Nat) : Int)] w0 fun e w' => ∃ sl st ft, e = .returned (.tuple #[.agg #[.int .i64 (((ptsL c d (setL (tp L))).length : Nat) : Int), .float .f64 sl, .float .f64 st, .float .f64 ft], .int .i64 0]) ∧ Ext w0 w' ∧ FitR (ptsL c d (setL (tp L))) sl st ft := by
  have hE0 : Below w0.heap.size w0 w0 := Below.refl _ _
  have hz0 := hE0.le
  obtain ⟨a, ca, rfl, hca, hca1⟩ := ha.form
  have hC2 : c < 16 ∧ ((c : Nat) : Int) < ar := by
    unfold badC at hC
    have h2 := of_decide_eq_false hC
    have := hG.2.2
    omega
  have hD2 : d < 16 ∧ ((d : Nat) : Int) < ar := by
    unfold badC at hD
    have h2 := of_decide_eq_false hD
    have := hG.2.2
    omega
  refine enter Tryd.func25 rfl 122 Tryd.ntmps25 rfl ?_
  refine seqK fun Q1 kn2 kr3 ke4 => ?_
  refine region ?_
  refine st_e (e_box (v := .agg #[.string pr, .int .i64 ar, .slice a L.length ca]) rfl ?_)
  intro w5 hA6
  have hx7 := hA6.ext
  have hs8 := hA6.size
  have hB9 : Blk w5.heap w0.heap.size [.string pr, .int .i64 ar, .slice a L.length ca] 29 := hA6.new
  have hE10 : Below w0.heap.size w0 w5 := hx7.e hE0 (Nat.le_refl _)
  have hz11 := hE10.le
  have hs12 := hx7.size
  refine st_e (e_alloc T.zv57 ?_)
  intro w13 hA14
  have hx15 := hA14.ext
  have hs16 := hA14.size
  have hB17 : Blk w13.heap w5.heap.size [.int .i64 ((0 : Nat) : Int), .float .f64 0, .float .f64 0, .float .f64 0] 57 := hA14.new
  have hB18 := hB9.ext hx15
  have hE19 : Below w0.heap.size w0 w13 := hx15.e hE10 (Nat.le_refl _)
  have hz20 := hE19.le
  have hs21 := hx15.size
  refine st_q (v := .int .i64 ((0 : Nat) : Int)) (x_assign rfl) ?_
  refine st_nil ?_
  refine kn2 _ _ ?_
  refine seqK fun Q22 kn23 kr24 ke25 => ?_
  refine seqK fun Q26 kn27 kr28 ke29 => ?_
  refine region ?_
  refine st_q (v := .agg #[.string pr, .int .i64 ar, .slice a L.length ca]) (x_loadA [.string pr, .int .i64 ar, .slice a L.length ca] T.ag29 rfl (hB18.cells 0 [.string pr, .int .i64 ar, .slice a L.length ca] (cells_at rfl))) ?_
  refine st_c (t_call [.agg #[.string pr, .int .i64 ar, .slice a L.length ca]] T.cf34 rfl rfl) (right34 pr ar L _ _ (ha.below hE19) (RowsP.below hL hE19)) ?_
  rintro _ w30 ⟨rfl, hx31⟩
  refine ⟨_, rfl, ?_⟩
  have hB32 := hB18.ext hx31
  have hB33 := hB17.ext hx31
  have hE34 : Below w0.heap.size w0 w30 := hx31.e hE19 (Nat.le_refl _)
  have hz35 := hE34.le
  have hs36 := hx31.size
  refine st_q (v := .bool (decide (¬ (RightR ar (tp L))))) (x_notP rfl) ?_
  refine st_if (p := ¬ (RightR ar (tp L))) (x_move rfl) (fun h37 => ?_) (fun h37 => ?_)
  ·
   exact absurd h37 (not_not_intro hG)
  ·
   refine st_gq 3 25 rfl rfl (by decide) ?_
   refine st_q (v := .agg #[.string pr, .int .i64 ar, .slice a L.length ca]) (x_loadA [.string pr, .int .i64 ar, .slice a L.length ca] T.ag29 rfl (hB32.cells 0 [.string pr, .int .i64 ar, .slice a L.length ca] (cells_at rfl))) ?_
   refine st_gq 3 25 rfl rfl (by decide) ?_
   refine st_q (v := .int .i64 ((c : Nat) : Int)) (x_move rfl) ?_
   refine st_gq 3 25 rfl rfl (by decide) ?_
   refine st_e (e_buildSlice (cs := [.int .i64 ((c : Nat) : Int)]) (e := 3) (fun _ => by kernel_rfl) ?_)
   intro w38 hA39
   have hx40 := hA39.ext
   have hs41 := hA39.size
   have hB42 : Blk w38.heap w30.heap.size [.int .i64 ((c : Nat) : Int)] 3 := hA39.new
   have hB43 := hB32.ext hx40
   have hB44 := hB33.ext hx40
   have hE45 : Below w0.heap.size w0 w38 := hx40.e hE34 (Nat.le_refl _)
   have hz46 := hE45.le
   have hs47 := hx40.size
   refine st_gq 3 25 rfl rfl (by decide) ?_
   refine st_c (t_call [.agg #[.string pr, .int .i64 ar, .slice a L.length ca], .slice ((some ⟨w30.heap.size, 0, none⟩)) 1 1] T.cf35 rfl rfl) (columns35 pr ar _ [((c : Nat) : Int)] _ _ (hB42.src1 (k := 1) (m := 1) rfl (by omega))) ?_
   rintro _ w48 ⟨rfl, hx49⟩
   refine ⟨_, rfl, ?_⟩
   have hB50 := hB43.ext hx49
   have hB51 := hB44.ext hx49
   have hB52 := hB42.ext hx49
   have hE53 : Below w0.heap.size w0 w48 := hx49.e hE45 (Nat.le_refl _)
   have hz54 := hE53.le
   have hs55 := hx49.size
   refine st_gq 3 25 rfl rfl (by decide) ?_
   refine st_q (v := .bool (decide (¬ (ColsOK ar [((c : Nat) : Int)])))) (x_notP rfl) ?_
   refine st_q (v := .bool (decide (¬ (ColsOK ar [((c : Nat) : Int)])))) (x_pickF rfl rfl) ?_
   refine st_if (p := ¬ (ColsOK ar [((c : Nat) : Int)])) (x_move rfl) (fun h56 => ?_) (fun h56 => ?_)
   ·
    exact absurd h56 (not_not_intro (colsOK_one.2 hC))
   ·
    refine st_gq 10 32 rfl rfl (by decide) ?_
    refine st_q (v := .agg #[.string pr, .int .i64 ar, .slice a L.length ca]) (x_loadA [.string pr, .int .i64 ar, .slice a L.length ca] T.ag29 rfl (hB50.cells 0 [.string pr, .int .i64 ar, .slice a L.length ca] (cells_at rfl))) ?_
    refine st_gq 10 32 rfl rfl (by decide) ?_
    refine st_q (v := .int .i64 ((d : Nat) : Int)) (x_move rfl) ?_
    refine st_gq 10 32 rfl rfl (by decide) ?_
    refine st_e (e_buildSlice (cs := [.int .i64 ((d : Nat) : Int)]) (e := 3) (fun _ => by kernel_rfl) ?_)
    intro w57 hA58
    have hx59 := hA58.ext
    have hs60 := hA58.size
    have hB61 : Blk w57.heap w48.heap.size [.int .i64 ((d : Nat) : Int)] 3 := hA58.new
    have hB62 := hB50.ext hx59
    have hB63 := hB51.ext hx59
    have hB64 := hB52.ext hx59
    have hE65 : Below w0.heap.size w0 w57 := hx59.e hE53 (Nat.le_refl _)
    have hz66 := hE65.le
    have hs67 := hx59.size
    refine st_gq 10 32 rfl rfl (by decide) ?_
    refine st_c (t_call [.agg #[.string pr, .int .i64 ar, .slice a L.length ca], .slice ((some ⟨w48.heap.size, 0, none⟩)) 1 1] T.cf35 rfl rfl) (columns35 pr ar _ [((d : Nat) : Int)] _ _ (hB61.src1 (k := 1) (m := 1) rfl (by omega))) ?_
    rintro _ w68 ⟨rfl, hx69⟩
    refine ⟨_, rfl, ?_⟩
    have hB70 := hB62.ext hx69
    have hB71 := hB63.ext hx69
    have hB72 := hB64.ext hx69
    have hB73 := hB61.ext hx69
    have hE74 : Below w0.heap.size w0 w68 := hx69.e hE65 (Nat.le_refl _)
    have hz75 := hE74.le
    have hs76 := hx69.size
    refine st_gq 10 32 rfl rfl (by decide) ?_
    refine st_q (v := .bool (decide (¬ (ColsOK ar [((d : Nat) : Int)])))) (x_notP rfl) ?_
    refine st_q (v := .bool (decide (¬ (ColsOK ar [((d : Nat) : Int)])))) (x_pickF rfl rfl) ?_
    refine st_nil ?_
    refine kn27 _ _ ?_
    refine cnd (p := ¬ (ColsOK ar [((d : Nat) : Int)])) rfl (fun h77 => ?_) (fun h77 => ?_)
    ·
     exact absurd h77 (not_not_intro (colsOK_one.2 hD))
    ·
     refine skip ?_
     refine kn23 _ _ ?_
     refine seqK fun Q78 kn79 kr80 ke81 => ?_
     refine region ?_
     refine st_q (v := .agg #[.string pr, .int .i64 ar, .slice a L.length ca]) (x_loadA [.string pr, .int .i64 ar, .slice a L.length ca] T.ag29 rfl (hB70.cells 0 [.string pr, .int .i64 ar, .slice a L.length ca] (cells_at rfl))) ?_
     refine st_q (v := .int .i64 ((c : Nat) : Int)) (x_move rfl) ?_
     refine st_q (v := .int .i64 ((d : Nat) : Int)) (x_move rfl) ?_
     refine st_c (t_call [.agg #[.string pr, .int .i64 ar, .slice a L.length ca], .int .i64 ((c : Nat) : Int), .int .i64 ((d : Nat) : Int)] T.cf48 rfl rfl) (refpoints48 pr ar L _ c d _ (ha.below hE74) (RowsP.below hL hE74) hG hC hD hn hsz) ?_
     rintro _ w82 ⟨vN, vM, rfl, hx83, hO84, hO85⟩
     refine ⟨_, rfl, ?_⟩
     have hB86 := hB70.ext hx83
     have hB87 := hB71.ext hx83
     have hB88 := hB72.ext hx83
     have hB89 := hB73.ext hx83
     have hE90 : Below w0.heap.size w0 w82 := hx83.e hE74 (Nat.le_refl _)
     have hz91 := hE90.le
     have hs92 := hx83.size
     have hNl : (ptsL c d (setL (tp L))).length ≤ L.length := Nat.le_trans (ptsL_len _ _ _) (by have h2 := setL_len (tp L); rw [tp_len] at h2; exact h2)
     obtain ⟨N, hN⟩ : ∃ N, N = (ptsL c d (setL (tp L))) := ⟨_, rfl⟩
     rw [← hN] at hO84 hO85 hNl
     have hfl : (N.map Prod.fst).length = N.length := List.length_map _
     have hsl : (N.map Prod.snd).length = N.length := List.length_map _
     obtain ⟨aA, cA, rfl, hcA, hcA1⟩ := hO84.src.form
     have hO93 := hO84.weak (lo' := w0.heap.size) (by omega)
     obtain ⟨aB, cB, rfl, hcB, hcB1⟩ := hO85.src.form
     have hO94 := hO85.weak (lo' := w0.heap.size) (by omega)
     refine st_q (v := .tuple #[.slice aA N.length cA, .slice aB N.length cB]) (x_move rfl) ?_
     refine st_q (v := .slice aA N.length cA) (x_extract rfl rfl) ?_
     refine st_q (v := .slice aB N.length cB) (x_extract rfl rfl) ?_
     refine st_q (v := .slice aA N.length cA) (x_assign rfl) ?_
     refine st_q (v := .slice aB N.length cB) (x_assign rfl) ?_
     refine st_nil ?_
     refine kn79 _ _ ?_
     refine seqK fun Q95 kn96 kr97 ke98 => ?_
     refine seqK fun Q99 kn100 kr101 ke102 => ?_
     refine region ?_
     refine st_q (v := .slice aA N.length cA) (x_move rfl) ?_
     refine st_q (v := .int .i64 ((N.length : Nat) : Int)) (x_lenSl rfl Tryd.underlying78 rfl) ?_
     refine st_q (v := .bool (decide (N.length = 0))) (x_eqlN rfl rfl) ?_
     refine st_nil ?_
     refine kn100 _ _ ?_
     refine cnd (p := N.length = 0) rfl (fun h103 => ?_) (fun h103 => ?_)
     ·
      refine seqK fun Q104 kn105 kr106 ke107 => ?_
      refine region ?_
      refine st_q (v := .agg #[.int .i64 ((0 : Nat) : Int), .float .f64 0, .float .f64 0, .float .f64 0]) (x_build (fun _ => by kernel_rfl)) ?_
      refine st_s (e_st (v := .agg #[.int .i64 ((0 : Nat) : Int), .float .f64 0, .float .f64 0, .float .f64 0]) T.sz57 rfl rfl hB87 (by simp [Value.cells]) (by rfl) ?_)
      intro w108 hP109
      have hB110 : Blk w108.heap w5.heap.size [.int .i64 ((0 : Nat) : Int), .float .f64 0, .float .f64 0, .float .f64 0] 57 := hP109.new
      have hs111 := hP109.size
      have hB112 := hB86.gk (hP109.grownBy) (hB87.rowk) (by decide)
      have hB113 := hB88.gk (hP109.grownBy) (hB87.rowk) (by decide)
      have hB114 := hB89.gk (hP109.grownBy) (hB87.rowk) (by decide)
      have hF115 := hO93.gk (hP109.grownBy) (hB87.rowk) (by decide)
      have hF116 := hO94.gk (hP109.grownBy) (hB87.rowk) (by decide)
      have hE117 : Below w0.heap.size w0 w108 := hP109.below hE90 (by omega)
      have hz118 := hE117.le
      refine st_q (v := .int .i64 ((0 : Nat) : Int)) (x_assign rfl) ?_
      refine st_nil ?_
      refine kn105 _ _ ?_
      refine ret ?_
      refine kr97 _ _ ?_
      refine leaveCT (P := Tryd.prog) (fn := Tryd.f25) (t := 6) (u := 7) (T := 57) (b := w5.heap.size) (o := 0) (cs := [.int .i64 ((0 : Nat) : Int), .float .f64 0, .float .f64 0, .float .f64 0]) (v := .int .i64 ((0 : Nat) : Int)) rfl T.ag57 rfl (hB110.cells 0 [.int .i64 ((0 : Nat) : Int), .float .f64 0, .float .f64 0, .float .f64 0] (cells_at rfl)) rfl ?_
      rw [← hN]
      exact ⟨0, 0, 0, by rw [(by assumption : N.length = 0)]; rfl, hE117, by unfold FitR; rw [if_pos (by assumption)]; exact ⟨rfl, rfl, rfl⟩⟩
     ·
      refine skip ?_
      refine kn96 _ _ ?_
      refine seqK fun Q119 kn120 kr121 ke122 => ?_
      refine region ?_
      refine st_q (v := .slice aA N.length cA) (x_move rfl) ?_
      refine st_c (t_call [.slice aA N.length cA] T.cf49 rfl rfl) (mean49 (N.map Prod.fst) _ _ (by rw [List.length_map]; exact hO93.src) (by rw [List.length_map]; omega)) ?_
      rintro _ w123 ⟨sx, mx, rfl, hx124, hsx, hmx⟩
      refine ⟨_, rfl, ?_⟩
      have hB125 := hB86.ext hx124
      have hB126 := hB87.ext hx124
      have hB127 := hB88.ext hx124
      have hB128 := hB89.ext hx124
      have hF129 := hO93.ext hx124
      have hF130 := hO94.ext hx124
      have hE131 : Below w0.heap.size w0 w123 := hx124.e hE90 (Nat.le_refl _)
      have hz132 := hE131.le
      have hs133 := hx124.size
      rw [List.length_map] at hsx hmx
      refine st_q (v := .tuple #[.float .f64 sx, .float .f64 mx]) (x_move rfl) ?_
      refine st_q (v := .float .f64 sx) (x_extract rfl rfl) ?_
      refine st_q (v := .float .f64 mx) (x_extract rfl rfl) ?_
      refine st_q (v := .float .f64 sx) (x_assign rfl) ?_
      refine st_q (v := .float .f64 mx) (x_assign rfl) ?_
      refine st_nil ?_
      refine kn120 _ _ ?_
      refine seqK fun Q134 kn135 kr136 ke137 => ?_
      refine region ?_
      refine st_q (v := .slice aB N.length cB) (x_move rfl) ?_
      refine st_c (t_call [.slice aB N.length cB] T.cf49 rfl rfl) (mean49 (N.map Prod.snd) _ _ (by rw [List.length_map]; exact hF130.src) (by rw [List.length_map]; omega)) ?_
      rintro _ w138 ⟨sy, my, rfl, hx139, hsy, hmy⟩
      refine ⟨_, rfl, ?_⟩
      have hB140 := hB125.ext hx139
      have hB141 := hB126.ext hx139
      have hB142 := hB127.ext hx139
      have hB143 := hB128.ext hx139
      have hF144 := hF129.ext hx139
      have hF145 := hF130.ext hx139
      have hE146 : Below w0.heap.size w0 w138 := hx139.e hE131 (Nat.le_refl _)
      have hz147 := hE146.le
      have hs148 := hx139.size
      rw [List.length_map] at hsy hmy
      refine st_q (v := .tuple #[.float .f64 sy, .float .f64 my]) (x_move rfl) ?_
      refine st_q (v := .float .f64 sy) (x_extract rfl rfl) ?_
      refine st_q (v := .float .f64 my) (x_extract rfl rfl) ?_
      refine st_q (v := .float .f64 sy) (x_assign rfl) ?_
      refine st_q (v := .float .f64 my) (x_assign rfl) ?_
      refine st_nil ?_
      refine kn135 _ _ ?_
      refine seqK fun Q149 kn150 kr151 ke152 => ?_
      refine region ?_
      refine st_q (v := .float .f64 0) (x_assign rfl) ?_
      refine st_q (v := .float .f64 0) (x_assign rfl) ?_
      refine st_q (v := .float .f64 0) (x_assign rfl) ?_
      refine st_nil ?_
      refine kn150 _ _ ?_
      refine seqK fun Q153 kn154 kr155 ke156 => ?_
      refine seqK fun Q157 kn158 kr159 ke160 => ?_
      refine region ?_
      refine st_q (v := .int .i64 ((0 : Nat) : Int)) (x_assign rfl) ?_
      refine st_nil ?_
      refine kn158 _ _ ?_
      refine blockK fun Q161 kn162 kr163 kx164 kb165 => ?_
      refine loopK (α := Nat × Nat × Nat × Nat) (fun x => [(6, .pointer (some ⟨w5.heap.size, 0, none⟩)), (8, .slice aA N.length cA), (9, .slice aB N.length cB), (11, .float .f64 mx), (13, .float .f64 my), (14, .float .f64 x.2.1), (15, .float .f64 x.2.2.1), (16, .float .f64 x.2.2.2), (17, .int .i64 ((x.1 : Nat) : Int))]) (fun x w166 => Ext w138 w166 ∧ x.1 ≤ N.length ∧ PQ mx my N x.1 x.2.1 x.2.2.1 x.2.2.2) (fun x => N.length - x.1) (0, 0, 0, 0) ⟨rfl, rfl, rfl, rfl, rfl, rfl, rfl, rfl, rfl, trivial⟩ ?_ ?_
      ·
       refine ⟨Below.refl _ _, ?_⟩
       try dsimp only
       exact ⟨Nat.zero_le _, rfl, rfl, rfl⟩
      ·
       rintro τ167 ⟨j, p, q, s⟩ w168 ⟨hx169, ⟨hj, hPQ⟩⟩
       try dsimp only at hj hPQ
       have hB170 := hB140.ext hx169
       have hB171 := hB141.ext hx169
       have hB172 := hB142.ext hx169
       have hB173 := hB143.ext hx169
       have hF174 := hF144.ext hx169
       have hF175 := hF145.ext hx169
       have hE176 : Below w0.heap.size w0 w168 := hx169.e hE146 (Nat.le_refl _)
       have hz177 := hE176.le
       have hs178 := hx169.size
       intro Q179 kn180 kr181 ke182
       refine seqK fun Q183 kn184 kr185 ke186 => ?_
       refine seqK fun Q187 kn188 kr189 ke190 => ?_
       refine region ?_
       refine st_q (v := .int .i64 ((j : Nat) : Int)) (x_move rfl) ?_
       refine st_q (v := .slice aA N.length cA) (x_move rfl) ?_
       refine st_q (v := .int .i64 ((N.length : Nat) : Int)) (x_lenSl rfl Tryd.underlying78 rfl) ?_
       refine st_q (v := .bool (decide (j < N.length))) (x_lssN rfl rfl) ?_
       refine st_nil ?_
       refine kn188 _ _ ?_
       refine cnd (p := j < N.length) rfl (fun h191 => ?_) (fun h191 => ?_)
       ·
        refine skip ?_
        refine kn184 _ _ ?_
        refine seqK fun Q192 kn193 kr194 ke195 => ?_
        refine blockK fun Q196 kn197 kr198 kx199 kb200 => ?_
        refine seqK fun Q201 kn202 kr203 ke204 => ?_
        refine region ?_
        refine st_q (v := .slice aA N.length cA) (x_move rfl) ?_
        refine st_q (v := .int .i64 ((j : Nat) : Int)) (x_move rfl) ?_
        obtain ⟨b205, o206, ha207, hc208⟩ := hF174.src.at (by omega)
        refine st_q (v := .pointer (some ⟨b205, o206 + j * 1, none⟩)) (x_index' T.sl78 rfl ha207 rfl (by omega)) ?_
        refine st_q (v := .float .f64 ((el (N.map Prod.fst) j))) (x_load1 T.na22 rfl (hc208.elem enF_len (i := j) (by omega))) ?_
        refine st_q (v := .float .f64 mx) (x_move rfl) ?_
        refine st_e (e_subF (a := ((el (N.map Prod.fst) j))) (b := mx) rfl rfl ?_)
        intro r209 w211 hr210 hx212
        have hB213 := hB170.ext hx212
        have hB214 := hB171.ext hx212
        have hB215 := hB172.ext hx212
        have hB216 := hB173.ext hx212
        have hF217 := hF174.ext hx212
        have hF218 := hF175.ext hx212
        have hF219 := hx212.e hx169 (Nat.le_refl _)
        have hF220 := hc208.ext hx212
        have hE221 : Below w0.heap.size w0 w211 := hx212.e hE176 (Nat.le_refl _)
        have hz222 := hE221.le
        have hs223 := hx212.size
        refine st_q (v := .float .f64 r209) (x_assign rfl) ?_
        refine st_nil ?_
        refine kn202 _ _ ?_
        refine seqK fun Q224 kn225 kr226 ke227 => ?_
        refine region ?_
        refine st_q (v := .slice aB N.length cB) (x_move rfl) ?_
        refine st_q (v := .int .i64 ((j : Nat) : Int)) (x_move rfl) ?_
        obtain ⟨b228, o229, ha230, hc231⟩ := hF218.src.at (by omega)
        refine st_q (v := .pointer (some ⟨b228, o229 + j * 1, none⟩)) (x_index' T.sl78 rfl ha230 rfl (by omega)) ?_
        refine st_q (v := .float .f64 ((el (N.map Prod.snd) j))) (x_load1 T.na22 rfl (hc231.elem enF_len (i := j) (by omega))) ?_
        refine st_q (v := .float .f64 my) (x_move rfl) ?_
        refine st_e (e_subF (a := ((el (N.map Prod.snd) j))) (b := my) rfl rfl ?_)
        intro r232 w234 hr233 hx235
        have hB236 := hB213.ext hx235
        have hB237 := hB214.ext hx235
        have hB238 := hB215.ext hx235
        have hB239 := hB216.ext hx235
        have hF240 := hF217.ext hx235
        have hF241 := hF218.ext hx235
        have hF242 := hx235.e hF219 (Nat.le_refl _)
        have hF243 := hF220.ext hx235
        have hF244 := hc231.ext hx235
        have hE245 : Below w0.heap.size w0 w234 := hx235.e hE221 (Nat.le_refl _)
        have hz246 := hE245.le
        have hs247 := hx235.size
        refine st_q (v := .float .f64 r232) (x_assign rfl) ?_
        refine st_nil ?_
        refine kn225 _ _ ?_
        refine seqK fun Q248 kn249 kr250 ke251 => ?_
        refine region ?_
        refine st_q (v := .float .f64 p) (x_move rfl) ?_
        refine st_q (v := .float .f64 r209) (x_move rfl) ?_
        refine st_q (v := .float .f64 r209) (x_move rfl) ?_
        refine st_e (e_mulF (a := r209) (b := r209) rfl rfl ?_)
        intro r252 w254 hr253 hx255
        have hB256 := hB236.ext hx255
        have hB257 := hB237.ext hx255
        have hB258 := hB238.ext hx255
        have hB259 := hB239.ext hx255
        have hF260 := hF240.ext hx255
        have hF261 := hF241.ext hx255
        have hF262 := hx255.e hF242 (Nat.le_refl _)
        have hF263 := hF243.ext hx255
        have hF264 := hF244.ext hx255
        have hE265 : Below w0.heap.size w0 w254 := hx255.e hE245 (Nat.le_refl _)
        have hz266 := hE265.le
        have hs267 := hx255.size
        refine st_e (e_addF (a := p) (b := r252) rfl rfl ?_)
        intro r268 w270 hr269 hx271
        have hB272 := hB256.ext hx271
        have hB273 := hB257.ext hx271
        have hB274 := hB258.ext hx271
        have hB275 := hB259.ext hx271
        have hF276 := hF260.ext hx271
        have hF277 := hF261.ext hx271
        have hF278 := hx271.e hF262 (Nat.le_refl _)
        have hF279 := hF263.ext hx271
        have hF280 := hF264.ext hx271
        have hE281 : Below w0.heap.size w0 w270 := hx271.e hE265 (Nat.le_refl _)
        have hz282 := hE281.le
        have hs283 := hx271.size
        refine st_q (v := .float .f64 r268) (x_assign rfl) ?_
        refine st_nil ?_
        refine kn249 _ _ ?_
        refine seqK fun Q284 kn285 kr286 ke287 => ?_
        refine region ?_
        refine st_q (v := .float .f64 q) (x_move rfl) ?_
        refine st_q (v := .float .f64 r209) (x_move rfl) ?_
        refine st_q (v := .float .f64 r232) (x_move rfl) ?_
        refine st_e (e_mulF (a := r209) (b := r232) rfl rfl ?_)
        intro r288 w290 hr289 hx291
        have hB292 := hB272.ext hx291
        have hB293 := hB273.ext hx291
        have hB294 := hB274.ext hx291
        have hB295 := hB275.ext hx291
        have hF296 := hF276.ext hx291
        have hF297 := hF277.ext hx291
        have hF298 := hx291.e hF278 (Nat.le_refl _)
        have hF299 := hF279.ext hx291
        have hF300 := hF280.ext hx291
        have hE301 : Below w0.heap.size w0 w290 := hx291.e hE281 (Nat.le_refl _)
        have hz302 := hE301.le
        have hs303 := hx291.size
        refine st_e (e_addF (a := q) (b := r288) rfl rfl ?_)
        intro r304 w306 hr305 hx307
        have hB308 := hB292.ext hx307
        have hB309 := hB293.ext hx307
        have hB310 := hB294.ext hx307
        have hB311 := hB295.ext hx307
        have hF312 := hF296.ext hx307
        have hF313 := hF297.ext hx307
        have hF314 := hx307.e hF298 (Nat.le_refl _)
        have hF315 := hF299.ext hx307
        have hF316 := hF300.ext hx307
        have hE317 : Below w0.heap.size w0 w306 := hx307.e hE301 (Nat.le_refl _)
        have hz318 := hE317.le
        have hs319 := hx307.size
        refine st_q (v := .float .f64 r304) (x_assign rfl) ?_
        refine st_nil ?_
        refine kn285 _ _ ?_
        refine region ?_
        refine st_q (v := .float .f64 s) (x_move rfl) ?_
        refine st_q (v := .float .f64 r232) (x_move rfl) ?_
        refine st_q (v := .float .f64 r232) (x_move rfl) ?_
        refine st_e (e_mulF (a := r232) (b := r232) rfl rfl ?_)
        intro r320 w322 hr321 hx323
        have hB324 := hB308.ext hx323
        have hB325 := hB309.ext hx323
        have hB326 := hB310.ext hx323
        have hB327 := hB311.ext hx323
        have hF328 := hF312.ext hx323
        have hF329 := hF313.ext hx323
        have hF330 := hx323.e hF314 (Nat.le_refl _)
        have hF331 := hF315.ext hx323
        have hF332 := hF316.ext hx323
        have hE333 : Below w0.heap.size w0 w322 := hx323.e hE317 (Nat.le_refl _)
        have hz334 := hE333.le
        have hs335 := hx323.size
        refine st_e (e_addF (a := s) (b := r320) rfl rfl ?_)
        intro r336 w338 hr337 hx339
        have hB340 := hB324.ext hx339
        have hB341 := hB325.ext hx339
        have hB342 := hB326.ext hx339
        have hB343 := hB327.ext hx339
        have hF344 := hF328.ext hx339
        have hF345 := hF329.ext hx339
        have hF346 := hx339.e hF330 (Nat.le_refl _)
        have hF347 := hF331.ext hx339
        have hF348 := hF332.ext hx339
        have hE349 : Below w0.heap.size w0 w338 := hx339.e hE333 (Nat.le_refl _)
        have hz350 := hE349.le
        have hs351 := hx339.size
        refine st_q (v := .float .f64 r336) (x_assign rfl) ?_
        refine st_nil ?_
        refine kn197 _ _ ?_
        refine kn193 _ _ ?_
        refine region ?_
        refine st_q (v := .int .i64 ((j : Nat) : Int)) (x_move rfl) ?_
        refine st_q (v := .int .i64 (((j + 1) : Nat) : Int)) (x_addN rfl rfl (by omega)) ?_
        refine st_q (v := .int .i64 (((j + 1) : Nat) : Int)) (x_assign rfl) ?_
        refine st_nil ?_
        refine kn180 _ ((j + 1), r268, r304, r336) _ ⟨rfl, rfl, rfl, rfl, rfl, rfl, rfl, rfl, rfl, trivial⟩ ⟨hF346, ?_⟩ ?_
        ·
         try dsimp only
         have f72 := hr210
         have f78 := hr233
         rw [el_map (by omega)] at f72 f78
         exact ⟨by omega, _, _, _, _, _, _, _, _, hPQ, f72, f78, hr253, hr269, hr289, hr305, hr321, hr337⟩
        ·
         (try dsimp only); omega
       ·
        refine exit ?_
        refine ke186 _ _ _ ?_
        refine ke182 _ _ _ ?_
        refine kb165 _ _ ?_
        refine kn154 _ _ ?_
        refine seqK fun Q352 kn353 kr354 ke355 => ?_
        refine region ?_
        refine st_q (v := .slice aA N.length cA) (x_move rfl) ?_
        refine st_q (v := .int .i64 ((N.length : Nat) : Int)) (x_lenSl rfl Tryd.underlying78 rfl) ?_
        refine st_q (v := .agg #[.int .i64 ((N.length : Nat) : Int), .float .f64 0, .float .f64 0, .float .f64 0]) (x_build (fun _ => by kernel_rfl)) ?_
        refine st_e (e_alloc T.zv57 ?_)
        intro w356 hA357
        have hx358 := hA357.ext
        have hs359 := hA357.size
        have hB360 : Blk w356.heap w168.heap.size [.int .i64 ((0 : Nat) : Int), .float .f64 0, .float .f64 0, .float .f64 0] 57 := hA357.new
        have hB361 := hB170.ext hx358
        have hB362 := hB171.ext hx358
        have hB363 := hB172.ext hx358
        have hB364 := hB173.ext hx358
        have hF365 := hF174.ext hx358
        have hF366 := hF175.ext hx358
        have hF367 := hx358.e hx169 (Nat.le_refl _)
        have hE368 : Below w0.heap.size w0 w356 := hx358.e hE176 (Nat.le_refl _)
        have hz369 := hE368.le
        have hs370 := hx358.size
        refine st_s (e_st (v := .agg #[.int .i64 ((N.length : Nat) : Int), .float .f64 0, .float .f64 0, .float .f64 0]) T.sz57 rfl rfl hB360 (by simp [Value.cells]) (by rfl) ?_)
        intro w371 hP372
        have hB373 : Blk w371.heap w168.heap.size [.int .i64 ((N.length : Nat) : Int), .float .f64 0, .float .f64 0, .float .f64 0] 57 := hP372.new
        have hs374 := hP372.size
        have hB375 := hB361.gk (hP372.grownBy) (hB360.rowk) (by decide)
        have hB376 := hB362.pt hP372 (by omega)
        have hB377 := hB363.gk (hP372.grownBy) (hB360.rowk) (by decide)
        have hB378 := hB364.gk (hP372.grownBy) (hB360.rowk) (by decide)
        have hF379 := hF365.gk (hP372.grownBy) (hB360.rowk) (by decide)
        have hF380 := hF366.gk (hP372.grownBy) (hB360.rowk) (by decide)
        have hE382 : Below w0.heap.size w0 w371 := hP372.below hE368 (by omega)
        have hz383 := hE382.le
        refine st_nil ?_
        refine kn353 _ _ ?_
        refine seqK fun Q384 kn385 kr386 ke387 => ?_
        refine seqK fun Q388 kn389 kr390 ke391 => ?_
        refine region ?_
        refine st_q (v := .float .f64 p) (x_move rfl) ?_
        refine st_q (v := .bool (decide (¬ (Flt.D.order p 0 = some .eq)))) (x_neqF rfl rfl) ?_
        refine st_nil ?_
        refine kn389 _ _ ?_
        refine cnd (p := ¬ (Flt.D.order p 0 = some .eq)) rfl (fun h392 => ?_) (fun h392 => ?_)
        ·
         refine region ?_
         refine st_q (v := .float .f64 q) (x_move rfl) ?_
         refine st_q (v := .float .f64 p) (x_move rfl) ?_
         refine st_e (e_quoF (a := q) (b := p) rfl rfl ?_)
         intro r393 w395 hr394 hx396
         have hB397 := hB375.ext hx396
         have hB398 := hB376.ext hx396
         have hB399 := hB377.ext hx396
         have hB400 := hB378.ext hx396
         have hB401 := hB373.ext hx396
         have hF402 := hF379.ext hx396
         have hF403 := hF380.ext hx396
         have hE404 : Below w0.heap.size w0 w395 := hx396.e hE382 (Nat.le_refl _)
         have hz405 := hE404.le
         have hs406 := hx396.size
         refine st_q (v := .pointer (some ⟨w168.heap.size, 1, none⟩)) (x_field (o := 0) T.fa57_1 rfl) ?_
         refine st_s (e_st (v := .float .f64 r393) T.sz22 rfl rfl hB401 (by simp [Value.cells]) (by rfl) ?_)
         intro w407 hP408
         have hB409 : Blk w407.heap w168.heap.size [.int .i64 ((N.length : Nat) : Int), .float .f64 r393, .float .f64 0, .float .f64 0] 57 := hP408.new
         have hs410 := hP408.size
         have hB411 := hB397.gk (hP408.grownBy) (hB401.rowk) (by decide)
         have hB412 := hB398.pt hP408 (by omega)
         have hB413 := hB399.gk (hP408.grownBy) (hB401.rowk) (by decide)
         have hB414 := hB400.gk (hP408.grownBy) (hB401.rowk) (by decide)
         have hF415 := hF402.gk (hP408.grownBy) (hB401.rowk) (by decide)
         have hF416 := hF403.gk (hP408.grownBy) (hB401.rowk) (by decide)
         have hE417 : Below w0.heap.size w0 w407 := hP408.below hE404 (by omega)
         have hz418 := hE417.le
         refine st_nil ?_
         refine kn385 _ _ ?_
         refine seqK fun Q419 kn420 kr421 ke422 => ?_
         refine region ?_
         refine st_q (v := .float .f64 my) (x_move rfl) ?_
         refine st_q (v := .pointer (some ⟨w168.heap.size, 1, none⟩)) (x_field (o := 0) T.fa57_1 rfl) ?_
         refine st_q (v := .float .f64 r393) (x_load1 T.na22 rfl (hB409.one 1 rfl)) ?_
         refine st_q (v := .float .f64 mx) (x_move rfl) ?_
         refine st_e (e_mulF (a := r393) (b := mx) rfl rfl ?_)
         intro r423 w425 hr424 hx426
         have hB427 := hB411.ext hx426
         have hB428 := hB412.ext hx426
         have hB429 := hB413.ext hx426
         have hB430 := hB414.ext hx426
         have hB431 := hB409.ext hx426
         have hF432 := hF415.ext hx426
         have hF433 := hF416.ext hx426
         have hE434 : Below w0.heap.size w0 w425 := hx426.e hE417 (Nat.le_refl _)
         have hz435 := hE434.le
         have hs436 := hx426.size
         refine st_e (e_subF (a := my) (b := r423) rfl rfl ?_)
         intro r437 w439 hr438 hx440
         have hB441 := hB427.ext hx440
         have hB442 := hB428.ext hx440
         have hB443 := hB429.ext hx440
         have hB444 := hB430.ext hx440
         have hB445 := hB431.ext hx440
         have hF446 := hF432.ext hx440
         have hF447 := hF433.ext hx440
         have hE448 : Below w0.heap.size w0 w439 := hx440.e hE434 (Nat.le_refl _)
         have hz449 := hE448.le
         have hs450 := hx440.size
         refine st_q (v := .pointer (some ⟨w168.heap.size, 2, none⟩)) (x_field (o := 0) T.fa57_2 rfl) ?_
         refine st_s (e_st (v := .float .f64 r437) T.sz22 rfl rfl hB445 (by simp [Value.cells]) (by rfl) ?_)
         intro w451 hP452
         have hB453 : Blk w451.heap w168.heap.size [.int .i64 ((N.length : Nat) : Int), .float .f64 r393, .float .f64 r437, .float .f64 0] 57 := hP452.new
         have hs454 := hP452.size
         have hB455 := hB441.gk (hP452.grownBy) (hB445.rowk) (by decide)
         have hB456 := hB442.pt hP452 (by omega)
         have hB457 := hB443.gk (hP452.grownBy) (hB445.rowk) (by decide)
         have hB458 := hB444.gk (hP452.grownBy) (hB445.rowk) (by decide)
         have hF459 := hF446.gk (hP452.grownBy) (hB445.rowk) (by decide)
         have hF460 := hF447.gk (hP452.grownBy) (hB445.rowk) (by decide)
         have hE461 : Below w0.heap.size w0 w451 := hP452.below hE448 (by omega)
         have hz462 := hE461.le
         refine st_nil ?_
         refine kn420 _ _ ?_
         refine seqK fun Q463 kn464 kr465 ke466 => ?_
         refine region ?_
         refine st_q (v := .float .f64 p) (x_move rfl) ?_
         refine st_q (v := .float .f64 s) (x_move rfl) ?_
         refine st_e (e_mulF (a := p) (b := s) rfl rfl ?_)
         intro r467 w469 hr468 hx470
         have hB471 := hB455.ext hx470
         have hB472 := hB456.ext hx470
         have hB473 := hB457.ext hx470
         have hB474 := hB458.ext hx470
         have hB475 := hB453.ext hx470
         have hF476 := hF459.ext hx470
         have hF477 := hF460.ext hx470
         have hE478 : Below w0.heap.size w0 w469 := hx470.e hE461 (Nat.le_refl _)
         have hz479 := hE478.le
         have hs480 := hx470.size
         refine st_q (v := .float .f64 r467) (x_assign rfl) ?_
         refine st_nil ?_
         refine kn464 _ _ ?_
         refine seqK fun Q481 kn482 kr483 ke484 => ?_
         refine seqK fun Q485 kn486 kr487 ke488 => ?_
         refine region ?_
         refine st_q (v := .float .f64 r467) (x_move rfl) ?_
         refine st_q (v := .bool (decide (¬ (Flt.D.order r467 0 = some .eq)))) (x_neqF rfl rfl) ?_
         refine st_nil ?_
         refine kn486 _ _ ?_
         refine cnd (p := ¬ (Flt.D.order r467 0 = some .eq)) rfl (fun h489 => ?_) (fun h489 => ?_)
         ·
          refine region ?_
          refine st_q (v := .float .f64 q) (x_move rfl) ?_
          refine st_q (v := .float .f64 q) (x_move rfl) ?_
          refine st_e (e_mulF (a := q) (b := q) rfl rfl ?_)
          intro r490 w492 hr491 hx493
          have hB494 := hB471.ext hx493
          have hB495 := hB472.ext hx493
          have hB496 := hB473.ext hx493
          have hB497 := hB474.ext hx493
          have hB498 := hB475.ext hx493
          have hF499 := hF476.ext hx493
          have hF500 := hF477.ext hx493
          have hE501 : Below w0.heap.size w0 w492 := hx493.e hE478 (Nat.le_refl _)
          have hz502 := hE501.le
          have hs503 := hx493.size
          refine st_q (v := .float .f64 r467) (x_move rfl) ?_
          refine st_e (e_quoF (a := r490) (b := r467) rfl rfl ?_)
          intro r504 w506 hr505 hx507
          have hB508 := hB494.ext hx507
          have hB509 := hB495.ext hx507
          have hB510 := hB496.ext hx507
          have hB511 := hB497.ext hx507
          have hB512 := hB498.ext hx507
          have hF513 := hF499.ext hx507
          have hF514 := hF500.ext hx507
          have hE515 : Below w0.heap.size w0 w506 := hx507.e hE501 (Nat.le_refl _)
          have hz516 := hE515.le
          have hs517 := hx507.size
          refine st_q (v := .pointer (some ⟨w168.heap.size, 3, none⟩)) (x_field (o := 0) T.fa57_3 rfl) ?_
          refine st_s (e_st (v := .float .f64 r504) T.sz22 rfl rfl hB512 (by simp [Value.cells]) (by rfl) ?_)
          intro w518 hP519
          have hB520 : Blk w518.heap w168.heap.size [.int .i64 ((N.length : Nat) : Int), .float .f64 r393, .float .f64 r437, .float .f64 r504] 57 := hP519.new
          have hs521 := hP519.size
          have hB522 := hB508.gk (hP519.grownBy) (hB512.rowk) (by decide)
          have hB523 := hB509.pt hP519 (by omega)
          have hB524 := hB510.gk (hP519.grownBy) (hB512.rowk) (by decide)
          have hB525 := hB511.gk (hP519.grownBy) (hB512.rowk) (by decide)
          have hF526 := hF513.gk (hP519.grownBy) (hB512.rowk) (by decide)
          have hF527 := hF514.gk (hP519.grownBy) (hB512.rowk) (by decide)
          have hE528 : Below w0.heap.size w0 w518 := hP519.below hE515 (by omega)
          have hz529 := hE528.le
          refine st_nil ?_
          refine kn482 _ _ ?_
          refine seqK fun Q530 kn531 kr532 ke533 => ?_
          refine region ?_
          refine st_q (v := .agg #[.int .i64 ((N.length : Nat) : Int), .float .f64 r393, .float .f64 r437, .float .f64 r504]) (x_loadA [.int .i64 ((N.length : Nat) : Int), .float .f64 r393, .float .f64 r437, .float .f64 r504] T.ag57 rfl (hB520.cells 0 [.int .i64 ((N.length : Nat) : Int), .float .f64 r393, .float .f64 r437, .float .f64 r504] (cells_at rfl))) ?_
          refine st_s (e_st (v := .agg #[.int .i64 ((N.length : Nat) : Int), .float .f64 r393, .float .f64 r437, .float .f64 r504]) T.sz57 rfl rfl hB523 (by simp [Value.cells]) (by rfl) ?_)
          intro w534 hP535
          have hB536 : Blk w534.heap w5.heap.size [.int .i64 ((N.length : Nat) : Int), .float .f64 r393, .float .f64 r437, .float .f64 r504] 57 := hP535.new
          have hs537 := hP535.size
          have hB538 := hB522.gk (hP535.grownBy) (hB523.rowk) (by decide)
          have hB539 := hB524.gk (hP535.grownBy) (hB523.rowk) (by decide)
          have hB540 := hB525.gk (hP535.grownBy) (hB523.rowk) (by decide)
          have hB541 := hB520.pt hP535 (by omega)
          have hF542 := hF526.gk (hP535.grownBy) (hB523.rowk) (by decide)
          have hF543 := hF527.gk (hP535.grownBy) (hB523.rowk) (by decide)
          have hE544 : Below w0.heap.size w0 w534 := hP535.below hE528 (by omega)
          have hz545 := hE544.le
          refine st_q (v := .int .i64 ((0 : Nat) : Int)) (x_assign rfl) ?_
          refine st_nil ?_
          refine kn531 _ _ ?_
          refine ret ?_
          refine leaveCT (P := Tryd.prog) (fn := Tryd.f25) (t := 6) (u := 7) (T := 57) (b := w5.heap.size) (o := 0) (cs := [.int .i64 ((N.length : Nat) : Int), .float .f64 r393, .float .f64 r437, .float .f64 r504]) (v := .int .i64 ((0 : Nat) : Int)) rfl T.ag57 rfl (hB536.cells 0 [.int .i64 ((N.length : Nat) : Int), .float .f64 r393, .float .f64 r437, .float .f64 r504] (cells_at rfl)) rfl ?_
          obtain rfl : j = N.length := by omega
          rw [← hN]
          refine ⟨_, _, _, rfl, hE544, ?_⟩
          unfold FitR; rw [if_neg (by omega)]
          exact ⟨_, _, _, _, p, q, s, _, _, hsx, hsy, hmx, hmy, hPQ, by rw [if_neg (by assumption)]; exact hr394, hr424, hr438, hr468, by rw [if_neg (by assumption)]; exact ⟨_, hr491, hr505⟩⟩
         ·
          refine skip ?_
          refine kn482 _ _ ?_
          refine seqK fun Q546 kn547 kr548 ke549 => ?_
          refine region ?_
          refine st_q (v := .agg #[.int .i64 ((N.length : Nat) : Int), .float .f64 r393, .float .f64 r437, .float .f64 0]) (x_loadA [.int .i64 ((N.length : Nat) : Int), .float .f64 r393, .float .f64 r437, .float .f64 0] T.ag57 rfl (hB475.cells 0 [.int .i64 ((N.length : Nat) : Int), .float .f64 r393, .float .f64 r437, .float .f64 0] (cells_at rfl))) ?_
          refine st_s (e_st (v := .agg #[.int .i64 ((N.length : Nat) : Int), .float .f64 r393, .float .f64 r437, .float .f64 0]) T.sz57 rfl rfl hB472 (by simp [Value.cells]) (by rfl) ?_)
          intro w550 hP551
          have hB552 : Blk w550.heap w5.heap.size [.int .i64 ((N.length : Nat) : Int), .float .f64 r393, .float .f64 r437, .float .f64 0] 57 := hP551.new
          have hs553 := hP551.size
          have hB554 := hB471.gk (hP551.grownBy) (hB472.rowk) (by decide)
          have hB555 := hB473.gk (hP551.grownBy) (hB472.rowk) (by decide)
          have hB556 := hB474.gk (hP551.grownBy) (hB472.rowk) (by decide)
          have hB557 := hB475.pt hP551 (by omega)
          have hF558 := hF476.gk (hP551.grownBy) (hB472.rowk) (by decide)
          have hF559 := hF477.gk (hP551.grownBy) (hB472.rowk) (by decide)
          have hE560 : Below w0.heap.size w0 w550 := hP551.below hE478 (by omega)
          have hz561 := hE560.le
          refine st_q (v := .int .i64 ((0 : Nat) : Int)) (x_assign rfl) ?_
          refine st_nil ?_
          refine kn547 _ _ ?_
          refine ret ?_
          refine leaveCT (P := Tryd.prog) (fn := Tryd.f25) (t := 6) (u := 7) (T := 57) (b := w5.heap.size) (o := 0) (cs := [.int .i64 ((N.length : Nat) : Int), .float .f64 r393, .float .f64 r437, .float .f64 0]) (v := .int .i64 ((0 : Nat) : Int)) rfl T.ag57 rfl (hB552.cells 0 [.int .i64 ((N.length : Nat) : Int), .float .f64 r393, .float .f64 r437, .float .f64 0] (cells_at rfl)) rfl ?_
          obtain rfl : j = N.length := by omega
          rw [← hN]
          refine ⟨_, _, _, rfl, hE560, ?_⟩
          unfold FitR; rw [if_neg (by omega)]
          exact ⟨_, _, _, _, p, q, s, _, _, hsx, hsy, hmx, hmy, hPQ, by rw [if_neg (by assumption)]; exact hr394, hr424, hr438, hr468, by rw [if_pos (Decidable.of_not_not (by assumption))]⟩
        ·
         refine skip ?_
         refine kn385 _ _ ?_
         refine seqK fun Q562 kn563 kr564 ke565 => ?_
         refine region ?_
         refine st_q (v := .float .f64 my) (x_move rfl) ?_
         refine st_q (v := .pointer (some ⟨w168.heap.size, 1, none⟩)) (x_field (o := 0) T.fa57_1 rfl) ?_
         refine st_q (v := .float .f64 0) (x_load1 T.na22 rfl (hB373.one 1 rfl)) ?_
         refine st_q (v := .float .f64 mx) (x_move rfl) ?_
         refine st_e (e_mulF (a := 0) (b := mx) rfl rfl ?_)
         intro r566 w568 hr567 hx569
         have hB570 := hB375.ext hx569
         have hB571 := hB376.ext hx569
         have hB572 := hB377.ext hx569
         have hB573 := hB378.ext hx569
         have hB574 := hB373.ext hx569
         have hF575 := hF379.ext hx569
         have hF576 := hF380.ext hx569
         have hE577 : Below w0.heap.size w0 w568 := hx569.e hE382 (Nat.le_refl _)
         have hz578 := hE577.le
         have hs579 := hx569.size
         refine st_e (e_subF (a := my) (b := r566) rfl rfl ?_)
         intro r580 w582 hr581 hx583
         have hB584 := hB570.ext hx583
         have hB585 := hB571.ext hx583
         have hB586 := hB572.ext hx583
         have hB587 := hB573.ext hx583
         have hB588 := hB574.ext hx583
         have hF589 := hF575.ext hx583
         have hF590 := hF576.ext hx583
         have hE591 : Below w0.heap.size w0 w582 := hx583.e hE577 (Nat.le_refl _)
         have hz592 := hE591.le
         have hs593 := hx583.size
         refine st_q (v := .pointer (some ⟨w168.heap.size, 2, none⟩)) (x_field (o := 0) T.fa57_2 rfl) ?_
         refine st_s (e_st (v := .float .f64 r580) T.sz22 rfl rfl hB588 (by simp [Value.cells]) (by rfl) ?_)
         intro w594 hP595
         have hB596 : Blk w594.heap w168.heap.size [.int .i64 ((N.length : Nat) : Int), .float .f64 0, .float .f64 r580, .float .f64 0] 57 := hP595.new
         have hs597 := hP595.size
         have hB598 := hB584.gk (hP595.grownBy) (hB588.rowk) (by decide)
         have hB599 := hB585.pt hP595 (by omega)
         have hB600 := hB586.gk (hP595.grownBy) (hB588.rowk) (by decide)
         have hB601 := hB587.gk (hP595.grownBy) (hB588.rowk) (by decide)
         have hF602 := hF589.gk (hP595.grownBy) (hB588.rowk) (by decide)
         have hF603 := hF590.gk (hP595.grownBy) (hB588.rowk) (by decide)
         have hE604 : Below w0.heap.size w0 w594 := hP595.below hE591 (by omega)
         have hz605 := hE604.le
         refine st_nil ?_
         refine kn563 _ _ ?_
         refine seqK fun Q606 kn607 kr608 ke609 => ?_
         refine region ?_
         refine st_q (v := .float .f64 p) (x_move rfl) ?_
         refine st_q (v := .float .f64 s) (x_move rfl) ?_
         refine st_e (e_mulF (a := p) (b := s) rfl rfl ?_)
         intro r610 w612 hr611 hx613
         have hB614 := hB598.ext hx613
         have hB615 := hB599.ext hx613
         have hB616 := hB600.ext hx613
         have hB617 := hB601.ext hx613
         have hB618 := hB596.ext hx613
         have hF619 := hF602.ext hx613
         have hF620 := hF603.ext hx613
         have hE621 : Below w0.heap.size w0 w612 := hx613.e hE604 (Nat.le_refl _)
         have hz622 := hE621.le
         have hs623 := hx613.size
         refine st_q (v := .float .f64 r610) (x_assign rfl) ?_
         refine st_nil ?_
         refine kn607 _ _ ?_
         refine seqK fun Q624 kn625 kr626 ke627 => ?_
         refine seqK fun Q628 kn629 kr630 ke631 => ?_
         refine region ?_
         refine st_q (v := .float .f64 r610) (x_move rfl) ?_
         refine st_q (v := .bool (decide (¬ (Flt.D.order r610 0 = some .eq)))) (x_neqF rfl rfl) ?_
         refine st_nil ?_
         refine kn629 _ _ ?_
         refine cnd (p := ¬ (Flt.D.order r610 0 = some .eq)) rfl (fun h632 => ?_) (fun h632 => ?_)
         ·
          refine region ?_
          refine st_q (v := .float .f64 q) (x_move rfl) ?_
          refine st_q (v := .float .f64 q) (x_move rfl) ?_
          refine st_e (e_mulF (a := q) (b := q) rfl rfl ?_)
          intro r633 w635 hr634 hx636
          have hB637 := hB614.ext hx636
          have hB638 := hB615.ext hx636
          have hB639 := hB616.ext hx636
          have hB640 := hB617.ext hx636
          have hB641 := hB618.ext hx636
          have hF642 := hF619.ext hx636
          have hF643 := hF620.ext hx636
          have hE644 : Below w0.heap.size w0 w635 := hx636.e hE621 (Nat.le_refl _)
          have hz645 := hE644.le
          have hs646 := hx636.size
          refine st_q (v := .float .f64 r610) (x_move rfl) ?_
          refine st_e (e_quoF (a := r633) (b := r610) rfl rfl ?_)
          intro r647 w649 hr648 hx650
          have hB651 := hB637.ext hx650
          have hB652 := hB638.ext hx650
          have hB653 := hB639.ext hx650
          have hB654 := hB640.ext hx650
          have hB655 := hB641.ext hx650
          have hF656 := hF642.ext hx650
          have hF657 := hF643.ext hx650
          have hE658 : Below w0.heap.size w0 w649 := hx650.e hE644 (Nat.le_refl _)
          have hz659 := hE658.le
          have hs660 := hx650.size
          refine st_q (v := .pointer (some ⟨w168.heap.size, 3, none⟩)) (x_field (o := 0) T.fa57_3 rfl) ?_
          refine st_s (e_st (v := .float .f64 r647) T.sz22 rfl rfl hB655 (by simp [Value.cells]) (by rfl) ?_)
          intro w661 hP662
          have hB663 : Blk w661.heap w168.heap.size [.int .i64 ((N.length : Nat) : Int), .float .f64 0, .float .f64 r580, .float .f64 r647] 57 := hP662.new
          have hs664 := hP662.size
          have hB665 := hB651.gk (hP662.grownBy) (hB655.rowk) (by decide)
          have hB666 := hB652.pt hP662 (by omega)
          have hB667 := hB653.gk (hP662.grownBy) (hB655.rowk) (by decide)
          have hB668 := hB654.gk (hP662.grownBy) (hB655.rowk) (by decide)
          have hF669 := hF656.gk (hP662.grownBy) (hB655.rowk) (by decide)
          have hF670 := hF657.gk (hP662.grownBy) (hB655.rowk) (by decide)
          have hE671 : Below w0.heap.size w0 w661 := hP662.below hE658 (by omega)
          have hz672 := hE671.le
          refine st_nil ?_
          refine kn625 _ _ ?_
          refine seqK fun Q673 kn674 kr675 ke676 => ?_
          refine region ?_
          refine st_q (v := .agg #[.int .i64 ((N.length : Nat) : Int), .float .f64 0, .float .f64 r580, .float .f64 r647]) (x_loadA [.int .i64 ((N.length : Nat) : Int), .float .f64 0, .float .f64 r580, .float .f64 r647] T.ag57 rfl (hB663.cells 0 [.int .i64 ((N.length : Nat) : Int), .float .f64 0, .float .f64 r580, .float .f64 r647] (cells_at rfl))) ?_
          refine st_s (e_st (v := .agg #[.int .i64 ((N.length : Nat) : Int), .float .f64 0, .float .f64 r580, .float .f64 r647]) T.sz57 rfl rfl hB666 (by simp [Value.cells]) (by rfl) ?_)
          intro w677 hP678
          have hB679 : Blk w677.heap w5.heap.size [.int .i64 ((N.length : Nat) : Int), .float .f64 0, .float .f64 r580, .float .f64 r647] 57 := hP678.new
          have hs680 := hP678.size
          have hB681 := hB665.gk (hP678.grownBy) (hB666.rowk) (by decide)
          have hB682 := hB667.gk (hP678.grownBy) (hB666.rowk) (by decide)
          have hB683 := hB668.gk (hP678.grownBy) (hB666.rowk) (by decide)
          have hB684 := hB663.pt hP678 (by omega)
          have hF685 := hF669.gk (hP678.grownBy) (hB666.rowk) (by decide)
          have hF686 := hF670.gk (hP678.grownBy) (hB666.rowk) (by decide)
          have hE687 : Below w0.heap.size w0 w677 := hP678.below hE671 (by omega)
          have hz688 := hE687.le
          refine st_q (v := .int .i64 ((0 : Nat) : Int)) (x_assign rfl) ?_
          refine st_nil ?_
          refine kn674 _ _ ?_
          refine ret ?_
          refine leaveCT (P := Tryd.prog) (fn := Tryd.f25) (t := 6) (u := 7) (T := 57) (b := w5.heap.size) (o := 0) (cs := [.int .i64 ((N.length : Nat) : Int), .float .f64 0, .float .f64 r580, .float .f64 r647]) (v := .int .i64 ((0 : Nat) : Int)) rfl T.ag57 rfl (hB679.cells 0 [.int .i64 ((N.length : Nat) : Int), .float .f64 0, .float .f64 r580, .float .f64 r647] (cells_at rfl)) rfl ?_
          obtain rfl : j = N.length := by omega
          rw [← hN]
          refine ⟨_, _, _, rfl, hE687, ?_⟩
          unfold FitR; rw [if_neg (by omega)]
          exact ⟨_, _, _, _, p, q, s, _, _, hsx, hsy, hmx, hmy, hPQ, by rw [if_pos (Decidable.of_not_not (by assumption))], hr567, hr581, hr611, by rw [if_neg (by assumption)]; exact ⟨_, hr634, hr648⟩⟩
         ·
          refine skip ?_
          refine kn625 _ _ ?_
          refine seqK fun Q689 kn690 kr691 ke692 => ?_
          refine region ?_
          refine st_q (v := .agg #[.int .i64 ((N.length : Nat) : Int), .float .f64 0, .float .f64 r580, .float .f64 0]) (x_loadA [.int .i64 ((N.length : Nat) : Int), .float .f64 0, .float .f64 r580, .float .f64 0] T.ag57 rfl (hB618.cells 0 [.int .i64 ((N.length : Nat) : Int), .float .f64 0, .float .f64 r580, .float .f64 0] (cells_at rfl))) ?_
          refine st_s (e_st (v := .agg #[.int .i64 ((N.length : Nat) : Int), .float .f64 0, .float .f64 r580, .float .f64 0]) T.sz57 rfl rfl hB615 (by simp [Value.cells]) (by rfl) ?_)
          intro w693 hP694
          have hB695 : Blk w693.heap w5.heap.size [.int .i64 ((N.length : Nat) : Int), .float .f64 0, .float .f64 r580, .float .f64 0] 57 := hP694.new
          have hs696 := hP694.size
          have hB697 := hB614.gk (hP694.grownBy) (hB615.rowk) (by decide)
          have hB698 := hB616.gk (hP694.grownBy) (hB615.rowk) (by decide)
          have hB699 := hB617.gk (hP694.grownBy) (hB615.rowk) (by decide)
          have hB700 := hB618.pt hP694 (by omega)
          have hF701 := hF619.gk (hP694.grownBy) (hB615.rowk) (by decide)
          have hF702 := hF620.gk (hP694.grownBy) (hB615.rowk) (by decide)
          have hE703 : Below w0.heap.size w0 w693 := hP694.below hE621 (by omega)
          have hz704 := hE703.le
          refine st_q (v := .int .i64 ((0 : Nat) : Int)) (x_assign rfl) ?_
          refine st_nil ?_
          refine kn690 _ _ ?_
          refine ret ?_
          refine leaveCT (P := Tryd.prog) (fn := Tryd.f25) (t := 6) (u := 7) (T := 57) (b := w5.heap.size) (o := 0) (cs := [.int .i64 ((N.length : Nat) : Int), .float .f64 0, .float .f64 r580, .float .f64 0]) (v := .int .i64 ((0 : Nat) : Int)) rfl T.ag57 rfl (hB695.cells 0 [.int .i64 ((N.length : Nat) : Int), .float .f64 0, .float .f64 r580, .float .f64 0] (cells_at rfl)) rfl ?_
          obtain rfl : j = N.length := by omega
          rw [← hN]
          refine ⟨_, _, _, rfl, hE703, ?_⟩
          unfold FitR; rw [if_neg (by omega)]
          exact ⟨_, _, _, _, p, q, s, _, _, hsx, hsy, hmx, hmy, hPQ, by rw [if_pos (Decidable.of_not_not (by assumption))], hr567, hr581, hr611, by rw [if_pos (Decidable.of_not_not (by assumption))]⟩

set_option maxHeartbeats 4000000 in
theorem refturn27 (pr : ByteArray) (ar : Int) (L : List Row) (va : Value) (c d : Nat) (w0 : World) (ha : Src w0.heap va L.length 1 (flat enR L)) (hL : RowsP w0.heap L) (hG : RightR ar (tp L)) (hC : badC ar ((c : Nat) : Int) = false) (hD : badC ar ((d : Nat) : Int) = false) (hn : L.length ≤ 1466015503701) (hsz : SizeL L) : Calls Tryd.prog 27 #[.agg #[.string pr, .int .i64 ar, va], .int .i64 ((c : Nat) : Int), .int .i64 ((d : Nat) : Int)] w0 fun e w' => ∃ u v, e = .returned (.tuple #[.float .f64 u, .float .f64 v, .int .i64 0]) ∧ Ext w0 w' ∧ TurnTo (ptsL c d (setL (tp L))) (ptsL c d (setL (tp L))).length u v := by
  have hE0 : Below w0.heap.size w0 w0 := Below.refl _ _
  have hz0 := hE0.le
  obtain ⟨a, ca, rfl, hca, hca1⟩ := ha.form
  have hC2 : c < 16 ∧ ((c : Nat) : Int) < ar := by
    unfold badC at hC
    have h2 := of_decide_eq_false hC
    have := hG.2.2
    omega
  have hD2 : d < 16 ∧ ((d : Nat) : Int) < ar := by
    unfold badC at hD
    have h2 := of_decide_eq_false hD
    have := hG.2.2
    omega
  refine enter Tryd.func27 rfl 76 Tryd.ntmps27 rfl ?_
  refine seqK fun Q1 kn2 kr3 ke4 => ?_
  refine region ?_
  refine st_e (e_box (v := .agg #[.string pr, .int .i64 ar, .slice a L.length ca]) rfl ?_)
  intro w5 hA6
  have hx7 := hA6.ext
  have hs8 := hA6.size
  have hB9 : Blk w5.heap w0.heap.size [.string pr, .int .i64 ar, .slice a L.length ca] 29 := hA6.new
  have hE10 : Below w0.heap.size w0 w5 := hx7.e hE0 (Nat.le_refl _)
  have hz11 := hE10.le
  have hs12 := hx7.size
  refine st_q (v := .float .f64 0) (x_assign rfl) ?_
  refine st_q (v := .float .f64 0) (x_assign rfl) ?_
  refine st_q (v := .int .i64 ((0 : Nat) : Int)) (x_assign rfl) ?_
  refine st_nil ?_
  refine kn2 _ _ ?_
  refine seqK fun Q13 kn14 kr15 ke16 => ?_
  refine seqK fun Q17 kn18 kr19 ke20 => ?_
  refine region ?_
  refine st_q (v := .agg #[.string pr, .int .i64 ar, .slice a L.length ca]) (x_loadA [.string pr, .int .i64 ar, .slice a L.length ca] T.ag29 rfl (hB9.cells 0 [.string pr, .int .i64 ar, .slice a L.length ca] (cells_at rfl))) ?_
  refine st_c (t_call [.agg #[.string pr, .int .i64 ar, .slice a L.length ca]] T.cf34 rfl rfl) (right34 pr ar L _ _ (ha.below hE10) (RowsP.below hL hE10)) ?_
  rintro _ w21 ⟨rfl, hx22⟩
  refine ⟨_, rfl, ?_⟩
  have hB23 := hB9.ext hx22
  have hE24 : Below w0.heap.size w0 w21 := hx22.e hE10 (Nat.le_refl _)
  have hz25 := hE24.le
  have hs26 := hx22.size
  refine st_q (v := .bool (decide (¬ (RightR ar (tp L))))) (x_notP rfl) ?_
  refine st_if (p := ¬ (RightR ar (tp L))) (x_move rfl) (fun h27 => ?_) (fun h27 => ?_)
  ·
   exact absurd h27 (not_not_intro hG)
  ·
   refine st_gq 3 19 rfl rfl (by decide) ?_
   refine st_q (v := .agg #[.string pr, .int .i64 ar, .slice a L.length ca]) (x_loadA [.string pr, .int .i64 ar, .slice a L.length ca] T.ag29 rfl (hB23.cells 0 [.string pr, .int .i64 ar, .slice a L.length ca] (cells_at rfl))) ?_
   refine st_gq 3 19 rfl rfl (by decide) ?_
   refine st_q (v := .int .i64 ((c : Nat) : Int)) (x_move rfl) ?_
   refine st_gq 3 19 rfl rfl (by decide) ?_
   refine st_e (e_buildSlice (cs := [.int .i64 ((c : Nat) : Int)]) (e := 3) (fun _ => by kernel_rfl) ?_)
   intro w28 hA29
   have hx30 := hA29.ext
   have hs31 := hA29.size
   have hB32 : Blk w28.heap w21.heap.size [.int .i64 ((c : Nat) : Int)] 3 := hA29.new
   have hB33 := hB23.ext hx30
   have hE34 : Below w0.heap.size w0 w28 := hx30.e hE24 (Nat.le_refl _)
   have hz35 := hE34.le
   have hs36 := hx30.size
   refine st_gq 3 19 rfl rfl (by decide) ?_
   refine st_c (t_call [.agg #[.string pr, .int .i64 ar, .slice a L.length ca], .slice ((some ⟨w21.heap.size, 0, none⟩)) 1 1] T.cf35 rfl rfl) (columns35 pr ar _ [((c : Nat) : Int)] _ _ (hB32.src1 (k := 1) (m := 1) rfl (by omega))) ?_
   rintro _ w37 ⟨rfl, hx38⟩
   refine ⟨_, rfl, ?_⟩
   have hB39 := hB33.ext hx38
   have hB40 := hB32.ext hx38
   have hE41 : Below w0.heap.size w0 w37 := hx38.e hE34 (Nat.le_refl _)
   have hz42 := hE41.le
   have hs43 := hx38.size
   refine st_gq 3 19 rfl rfl (by decide) ?_
   refine st_q (v := .bool (decide (¬ (ColsOK ar [((c : Nat) : Int)])))) (x_notP rfl) ?_
   refine st_q (v := .bool (decide (¬ (ColsOK ar [((c : Nat) : Int)])))) (x_pickF rfl rfl) ?_
   refine st_if (p := ¬ (ColsOK ar [((c : Nat) : Int)])) (x_move rfl) (fun h44 => ?_) (fun h44 => ?_)
   ·
    exact absurd h44 (not_not_intro (colsOK_one.2 hC))
   ·
    refine st_gq 10 26 rfl rfl (by decide) ?_
    refine st_q (v := .agg #[.string pr, .int .i64 ar, .slice a L.length ca]) (x_loadA [.string pr, .int .i64 ar, .slice a L.length ca] T.ag29 rfl (hB39.cells 0 [.string pr, .int .i64 ar, .slice a L.length ca] (cells_at rfl))) ?_
    refine st_gq 10 26 rfl rfl (by decide) ?_
    refine st_q (v := .int .i64 ((d : Nat) : Int)) (x_move rfl) ?_
    refine st_gq 10 26 rfl rfl (by decide) ?_
    refine st_e (e_buildSlice (cs := [.int .i64 ((d : Nat) : Int)]) (e := 3) (fun _ => by kernel_rfl) ?_)
    intro w45 hA46
    have hx47 := hA46.ext
    have hs48 := hA46.size
    have hB49 : Blk w45.heap w37.heap.size [.int .i64 ((d : Nat) : Int)] 3 := hA46.new
    have hB50 := hB39.ext hx47
    have hB51 := hB40.ext hx47
    have hE52 : Below w0.heap.size w0 w45 := hx47.e hE41 (Nat.le_refl _)
    have hz53 := hE52.le
    have hs54 := hx47.size
    refine st_gq 10 26 rfl rfl (by decide) ?_
    refine st_c (t_call [.agg #[.string pr, .int .i64 ar, .slice a L.length ca], .slice ((some ⟨w37.heap.size, 0, none⟩)) 1 1] T.cf35 rfl rfl) (columns35 pr ar _ [((d : Nat) : Int)] _ _ (hB49.src1 (k := 1) (m := 1) rfl (by omega))) ?_
    rintro _ w55 ⟨rfl, hx56⟩
    refine ⟨_, rfl, ?_⟩
    have hB57 := hB50.ext hx56
    have hB58 := hB51.ext hx56
    have hB59 := hB49.ext hx56
    have hE60 : Below w0.heap.size w0 w55 := hx56.e hE52 (Nat.le_refl _)
    have hz61 := hE60.le
    have hs62 := hx56.size
    refine st_gq 10 26 rfl rfl (by decide) ?_
    refine st_q (v := .bool (decide (¬ (ColsOK ar [((d : Nat) : Int)])))) (x_notP rfl) ?_
    refine st_q (v := .bool (decide (¬ (ColsOK ar [((d : Nat) : Int)])))) (x_pickF rfl rfl) ?_
    refine st_nil ?_
    refine kn18 _ _ ?_
    refine cnd (p := ¬ (ColsOK ar [((d : Nat) : Int)])) rfl (fun h63 => ?_) (fun h63 => ?_)
    ·
     exact absurd h63 (not_not_intro (colsOK_one.2 hD))
    ·
     refine skip ?_
     refine kn14 _ _ ?_
     refine seqK fun Q64 kn65 kr66 ke67 => ?_
     refine region ?_
     refine st_q (v := .agg #[.string pr, .int .i64 ar, .slice a L.length ca]) (x_loadA [.string pr, .int .i64 ar, .slice a L.length ca] T.ag29 rfl (hB57.cells 0 [.string pr, .int .i64 ar, .slice a L.length ca] (cells_at rfl))) ?_
     refine st_q (v := .int .i64 ((c : Nat) : Int)) (x_move rfl) ?_
     refine st_q (v := .int .i64 ((d : Nat) : Int)) (x_move rfl) ?_
     refine st_c (t_call [.agg #[.string pr, .int .i64 ar, .slice a L.length ca], .int .i64 ((c : Nat) : Int), .int .i64 ((d : Nat) : Int)] T.cf48 rfl rfl) (refpoints48 pr ar L _ c d _ (ha.below hE60) (RowsP.below hL hE60) hG hC hD hn hsz) ?_
     rintro _ w68 ⟨vN, vM, rfl, hx69, hO70, hO71⟩
     refine ⟨_, rfl, ?_⟩
     have hB72 := hB57.ext hx69
     have hB73 := hB58.ext hx69
     have hB74 := hB59.ext hx69
     have hE75 : Below w0.heap.size w0 w68 := hx69.e hE60 (Nat.le_refl _)
     have hz76 := hE75.le
     have hs77 := hx69.size
     have hNl : (ptsL c d (setL (tp L))).length ≤ L.length := Nat.le_trans (ptsL_len _ _ _) (by have h2 := setL_len (tp L); rw [tp_len] at h2; exact h2)
     obtain ⟨N, hN⟩ : ∃ N, N = (ptsL c d (setL (tp L))) := ⟨_, rfl⟩
     rw [← hN] at hO70 hO71 hNl
     have hfl : (N.map Prod.fst).length = N.length := List.length_map _
     have hsl : (N.map Prod.snd).length = N.length := List.length_map _
     obtain ⟨aA, cA, rfl, hcA, hcA1⟩ := hO70.src.form
     have hO78 := hO70.weak (lo' := w0.heap.size) (by omega)
     obtain ⟨aB, cB, rfl, hcB, hcB1⟩ := hO71.src.form
     have hO79 := hO71.weak (lo' := w0.heap.size) (by omega)
     refine st_q (v := .tuple #[.slice aA N.length cA, .slice aB N.length cB]) (x_move rfl) ?_
     refine st_q (v := .slice aA N.length cA) (x_extract rfl rfl) ?_
     refine st_q (v := .slice aB N.length cB) (x_extract rfl rfl) ?_
     refine st_q (v := .slice aA N.length cA) (x_assign rfl) ?_
     refine st_q (v := .slice aB N.length cB) (x_assign rfl) ?_
     refine st_nil ?_
     refine kn65 _ _ ?_
     refine seqK fun Q80 kn81 kr82 ke83 => ?_
     refine region ?_
     refine st_q (v := .float .f64 4607182418800017408) (x_assign rfl) ?_
     refine st_q (v := .float .f64 0) (x_assign rfl) ?_
     refine st_nil ?_
     refine kn81 _ _ ?_
     refine seqK fun Q84 kn85 kr86 ke87 => ?_
     refine seqK fun Q88 kn89 kr90 ke91 => ?_
     refine region ?_
     refine st_q (v := .int .i64 ((0 : Nat) : Int)) (x_assign rfl) ?_
     refine st_nil ?_
     refine kn89 _ _ ?_
     refine blockK fun Q92 kn93 kr94 kx95 kb96 => ?_
     refine loopK (α := Nat × Nat × Nat) (fun x => [(9, .slice aA N.length cA), (10, .slice aB N.length cB), (11, .float .f64 x.2.1), (12, .float .f64 x.2.2), (13, .int .i64 ((x.1 : Nat) : Int))]) (fun x w97 => Ext w68 w97 ∧ x.1 ≤ N.length ∧ TurnTo N x.1 x.2.1 x.2.2) (fun x => N.length - x.1) (0, 4607182418800017408, 0) ⟨rfl, rfl, rfl, rfl, rfl, trivial⟩ ?_ ?_
     ·
      refine ⟨Below.refl _ _, ?_⟩
      try dsimp only
      exact ⟨Nat.zero_le _, rfl, rfl⟩
     ·
      rintro τ98 ⟨i, u, v⟩ w99 ⟨hx100, ⟨hi, hTu⟩⟩
      try dsimp only at hi hTu
      have hB101 := hB72.ext hx100
      have hB102 := hB73.ext hx100
      have hB103 := hB74.ext hx100
      have hF104 := hO78.ext hx100
      have hF105 := hO79.ext hx100
      have hE106 : Below w0.heap.size w0 w99 := hx100.e hE75 (Nat.le_refl _)
      have hz107 := hE106.le
      have hs108 := hx100.size
      intro Q109 kn110 kr111 ke112
      refine seqK fun Q113 kn114 kr115 ke116 => ?_
      refine seqK fun Q117 kn118 kr119 ke120 => ?_
      refine region ?_
      refine st_q (v := .int .i64 ((i : Nat) : Int)) (x_move rfl) ?_
      refine st_q (v := .slice aA N.length cA) (x_move rfl) ?_
      refine st_q (v := .int .i64 ((N.length : Nat) : Int)) (x_lenSl rfl Tryd.underlying78 rfl) ?_
      refine st_q (v := .bool (decide (i < N.length))) (x_lssN rfl rfl) ?_
      refine st_nil ?_
      refine kn118 _ _ ?_
      refine cnd (p := i < N.length) rfl (fun h121 => ?_) (fun h121 => ?_)
      ·
       refine skip ?_
       refine kn114 _ _ ?_
       refine seqK fun Q122 kn123 kr124 ke125 => ?_
       refine blockK fun Q126 kn127 kr128 kx129 kb130 => ?_
       refine seqK fun Q131 kn132 kr133 ke134 => ?_
       refine regionD1 [4, 10] [0, 1, 2, 3, 4, 6, 7, 8, 9, 10, 13] (.one 0 (.one 1 (.one 2 (.one 3 (.one 4 (.one 6 (.one 7 (.one 8 (.one 9 (.one 10 (.two 5 (.one 11 (.one 12 (.one 13 .done))) 11 (.one 5 (.one 12 (.one 13 .done)))))))))))))) (by kernel_rfl) (by kernel_rfl) ?_
       intro w135 hx136 hs137
       have hB138 := hB101.ext hx136
       have hB139 := hB102.ext hx136
       have hB140 := hB103.ext hx136
       have hF141 := hF104.ext hx136
       have hF142 := hF105.ext hx136
       have hF143 := hx136.e hx100 (Nat.le_refl _)
       have hE144 : Below w0.heap.size w0 w135 := hx136.e hE106 (Nat.le_refl _)
       have hz145 := hE144.le
       have hs146 := hx136.size
       have hS147 : Ext w135 w135 := Below.refl _ _
       refine d_q (v := .float .f64 u) rfl rfl (fun _ => x_move rfl) ?_
       refine d_q (v := .slice aA N.length cA) rfl rfl (fun _ => x_move rfl) ?_
       refine d_q (v := .int .i64 ((i : Nat) : Int)) rfl rfl (fun _ => x_move rfl) ?_
       obtain ⟨b148, o149, ha150, hc151⟩ := hF141.src.at (by omega)
       refine d_q (v := .pointer (some ⟨b148, o149 + i * 1, none⟩)) rfl rfl (fun _ => x_index' T.sl78 rfl ha150 rfl (by omega)) ?_
       refine d_l (v := .float .f64 ((el (N.map Prod.fst) i))) rfl rfl rfl (fun v153 hw152 => x_load1 T.na22 rfl ((hc151.elem enF_len (i := i) (by omega)).ext hw152)) ?_
       refine d_q (v := .float .f64 v) rfl rfl (fun _ => x_move rfl) ?_
       refine d_q (v := .slice aB N.length cB) rfl rfl (fun _ => x_move rfl) ?_
       refine d_q (v := .int .i64 ((i : Nat) : Int)) rfl rfl (fun _ => x_move rfl) ?_
       obtain ⟨b154, o155, ha156, hc157⟩ := hF142.src.at (by omega)
       refine d_q (v := .pointer (some ⟨b154, o155 + i * 1, none⟩)) rfl rfl (fun _ => x_index' T.sl78 rfl ha156 rfl (by omega)) ?_
       refine d_l (v := .float .f64 ((el (N.map Prod.snd) i))) rfl rfl rfl (fun v159 hw158 => x_load1 T.na22 rfl ((hc157.elem enF_len (i := i) (by omega)).ext hw158)) ?_
       refine d_two ?_ ?_
       ·
        refine id (d_e' rfl rfl (e_mulF (a := u) (b := ((el (N.map Prod.fst) i))) rfl rfl ?_))
        intro r160 w162 hr161 hx163
        have hB164 := hB138.ext hx163
        have hB165 := hB139.ext hx163
        have hB166 := hB140.ext hx163
        have hF167 := hF141.ext hx163
        have hF168 := hF142.ext hx163
        have hF169 := hx163.e hF143 (Nat.le_refl _)
        have hF170 := hc151.ext hx163
        have hF171 := hc157.ext hx163
        have hE172 : Below w0.heap.size w0 w162 := hx163.e hE144 (Nat.le_refl _)
        have hz173 := hE172.le
        have hs174 := hx163.size
        have hS175 := hS147.trans (hx163.mono hS147.size)
        refine ⟨fun _ => hS175, ?_⟩
        refine d_e (by decide) (d_e' rfl rfl (e_mulF (a := v) (b := ((el (N.map Prod.snd) i))) rfl rfl ?_))
        intro r176 w178 hr177 hx179
        have hB180 := hB164.ext hx179
        have hB181 := hB165.ext hx179
        have hB182 := hB166.ext hx179
        have hF183 := hF167.ext hx179
        have hF184 := hF168.ext hx179
        have hF185 := hx179.e hF169 (Nat.le_refl _)
        have hF186 := hF170.ext hx179
        have hF187 := hF171.ext hx179
        have hE188 : Below w0.heap.size w0 w178 := hx179.e hE172 (Nat.le_refl _)
        have hz189 := hE188.le
        have hs190 := hx179.size
        have hS191 := hS175.trans (hx179.mono hS175.size)
        refine ⟨fun _ => hS191, ?_⟩
        refine d_e (by decide) (d_e' rfl rfl (e_subF (a := r160) (b := r176) rfl rfl ?_))
        intro r192 w194 hr193 hx195
        have hB196 := hB180.ext hx195
        have hB197 := hB181.ext hx195
        have hB198 := hB182.ext hx195
        have hF199 := hF183.ext hx195
        have hF200 := hF184.ext hx195
        have hF201 := hx195.e hF185 (Nat.le_refl _)
        have hF202 := hF186.ext hx195
        have hF203 := hF187.ext hx195
        have hE204 : Below w0.heap.size w0 w194 := hx195.e hE188 (Nat.le_refl _)
        have hz205 := hE204.le
        have hs206 := hx195.size
        have hS207 := hS191.trans (hx195.mono hS191.size)
        refine ⟨fun _ => hS207, ?_⟩
        refine d_q (v := .float .f64 r192) rfl rfl (fun _ => x_assign rfl) ?_
        refine d_done ?_
        refine kn132 _ _ ?_
        refine seqK fun Q208 kn209 kr210 ke211 => ?_
        refine regionD1 [4, 10] [0, 1, 2, 3, 4, 6, 7, 8, 9, 10, 13] (.one 0 (.one 1 (.one 2 (.one 3 (.one 4 (.one 6 (.one 7 (.one 8 (.one 9 (.one 10 (.two 5 (.one 11 (.one 12 (.one 13 .done))) 11 (.one 5 (.one 12 (.one 13 .done)))))))))))))) (by kernel_rfl) (by kernel_rfl) ?_
        intro w212 hx213 hs214
        have hB215 := hB196.ext hx213
        have hB216 := hB197.ext hx213
        have hB217 := hB198.ext hx213
        have hF218 := hF199.ext hx213
        have hF219 := hF200.ext hx213
        have hF220 := hx213.e hF201 (Nat.le_refl _)
        have hF221 := hF202.ext hx213
        have hF222 := hF203.ext hx213
        have hE223 : Below w0.heap.size w0 w212 := hx213.e hE204 (Nat.le_refl _)
        have hz224 := hE223.le
        have hs225 := hx213.size
        have hS226 : Ext w212 w212 := Below.refl _ _
        refine d_q (v := .float .f64 u) rfl rfl (fun _ => x_move rfl) ?_
        refine d_q (v := .slice aB N.length cB) rfl rfl (fun _ => x_move rfl) ?_
        refine d_q (v := .int .i64 ((i : Nat) : Int)) rfl rfl (fun _ => x_move rfl) ?_
        obtain ⟨b227, o228, ha229, hc230⟩ := hF219.src.at (by omega)
        refine d_q (v := .pointer (some ⟨b227, o228 + i * 1, none⟩)) rfl rfl (fun _ => x_index' T.sl78 rfl ha229 rfl (by omega)) ?_
        refine d_l (v := .float .f64 ((el (N.map Prod.snd) i))) rfl rfl rfl (fun v232 hw231 => x_load1 T.na22 rfl ((hc230.elem enF_len (i := i) (by omega)).ext hw231)) ?_
        refine d_q (v := .float .f64 v) rfl rfl (fun _ => x_move rfl) ?_
        refine d_q (v := .slice aA N.length cA) rfl rfl (fun _ => x_move rfl) ?_
        refine d_q (v := .int .i64 ((i : Nat) : Int)) rfl rfl (fun _ => x_move rfl) ?_
        obtain ⟨b233, o234, ha235, hc236⟩ := hF218.src.at (by omega)
        refine d_q (v := .pointer (some ⟨b233, o234 + i * 1, none⟩)) rfl rfl (fun _ => x_index' T.sl78 rfl ha235 rfl (by omega)) ?_
        refine d_l (v := .float .f64 ((el (N.map Prod.fst) i))) rfl rfl rfl (fun v238 hw237 => x_load1 T.na22 rfl ((hc236.elem enF_len (i := i) (by omega)).ext hw237)) ?_
        refine d_two ?_ ?_
        ·
         refine id (d_e' rfl rfl (e_mulF (a := u) (b := ((el (N.map Prod.snd) i))) rfl rfl ?_))
         intro r239 w241 hr240 hx242
         have hB243 := hB215.ext hx242
         have hB244 := hB216.ext hx242
         have hB245 := hB217.ext hx242
         have hF246 := hF218.ext hx242
         have hF247 := hF219.ext hx242
         have hF248 := hx242.e hF220 (Nat.le_refl _)
         have hF249 := hF221.ext hx242
         have hF250 := hF222.ext hx242
         have hF251 := hc230.ext hx242
         have hF252 := hc236.ext hx242
         have hE253 : Below w0.heap.size w0 w241 := hx242.e hE223 (Nat.le_refl _)
         have hz254 := hE253.le
         have hs255 := hx242.size
         have hS256 := hS226.trans (hx242.mono hS226.size)
         refine ⟨fun _ => hS256, ?_⟩
         refine d_e (by decide) (d_e' rfl rfl (e_mulF (a := v) (b := ((el (N.map Prod.fst) i))) rfl rfl ?_))
         intro r257 w259 hr258 hx260
         have hB261 := hB243.ext hx260
         have hB262 := hB244.ext hx260
         have hB263 := hB245.ext hx260
         have hF264 := hF246.ext hx260
         have hF265 := hF247.ext hx260
         have hF266 := hx260.e hF248 (Nat.le_refl _)
         have hF267 := hF249.ext hx260
         have hF268 := hF250.ext hx260
         have hF269 := hF251.ext hx260
         have hF270 := hF252.ext hx260
         have hE271 : Below w0.heap.size w0 w259 := hx260.e hE253 (Nat.le_refl _)
         have hz272 := hE271.le
         have hs273 := hx260.size
         have hS274 := hS256.trans (hx260.mono hS256.size)
         refine ⟨fun _ => hS274, ?_⟩
         refine d_e (by decide) (d_e' rfl rfl (e_addF (a := r239) (b := r257) rfl rfl ?_))
         intro r275 w277 hr276 hx278
         have hB279 := hB261.ext hx278
         have hB280 := hB262.ext hx278
         have hB281 := hB263.ext hx278
         have hF282 := hF264.ext hx278
         have hF283 := hF265.ext hx278
         have hF284 := hx278.e hF266 (Nat.le_refl _)
         have hF285 := hF267.ext hx278
         have hF286 := hF268.ext hx278
         have hF287 := hF269.ext hx278
         have hF288 := hF270.ext hx278
         have hE289 : Below w0.heap.size w0 w277 := hx278.e hE271 (Nat.le_refl _)
         have hz290 := hE289.le
         have hs291 := hx278.size
         have hS292 := hS274.trans (hx278.mono hS274.size)
         refine ⟨fun _ => hS292, ?_⟩
         refine d_q (v := .float .f64 r275) rfl rfl (fun _ => x_assign rfl) ?_
         refine d_done ?_
         refine kn209 _ _ ?_
         refine region ?_
         refine st_q (v := .float .f64 r192) (x_move rfl) ?_
         refine st_q (v := .float .f64 r275) (x_move rfl) ?_
         refine st_q (v := .float .f64 r192) (x_assign rfl) ?_
         refine st_q (v := .float .f64 r275) (x_assign rfl) ?_
         refine st_nil ?_
         refine kn127 _ _ ?_
         refine kn123 _ _ ?_
         refine region ?_
         refine st_q (v := .int .i64 ((i : Nat) : Int)) (x_move rfl) ?_
         refine st_q (v := .int .i64 (((i + 1) : Nat) : Int)) (x_addN rfl rfl (by omega)) ?_
         refine st_q (v := .int .i64 (((i + 1) : Nat) : Int)) (x_assign rfl) ?_
         refine st_nil ?_
         refine kn110 _ ((i + 1), r192, r275) _ ⟨rfl, rfl, rfl, rfl, rfl, trivial⟩ ⟨hF284, ?_⟩ ?_
         ·
          try dsimp only
          have f51 := hr161
          have f57 := hr177
          have f64 := hr240
          have f70 := hr258
          rw [el_map (by omega)] at f51 f57 f64 f70
          exact ⟨by omega, _, _, _, _, _, _, hTu, f51, f57, hr193, f64, f70, hr276⟩
         ·
          (try dsimp only); omega
        ·
         refine id (d_e' rfl rfl (e_mulF (a := v) (b := ((el (N.map Prod.fst) i))) rfl rfl ?_))
         intro r293 w295 hr294 hx296
         have hB297 := hB215.ext hx296
         have hB298 := hB216.ext hx296
         have hB299 := hB217.ext hx296
         have hF300 := hF218.ext hx296
         have hF301 := hF219.ext hx296
         have hF302 := hx296.e hF220 (Nat.le_refl _)
         have hF303 := hF221.ext hx296
         have hF304 := hF222.ext hx296
         have hF305 := hc230.ext hx296
         have hF306 := hc236.ext hx296
         have hE307 : Below w0.heap.size w0 w295 := hx296.e hE223 (Nat.le_refl _)
         have hz308 := hE307.le
         have hs309 := hx296.size
         have hS310 := hS226.trans (hx296.mono hS226.size)
         refine ⟨fun _ => hS310, ?_⟩
         refine d_e (by decide) (d_e' rfl rfl (e_mulF (a := u) (b := ((el (N.map Prod.snd) i))) rfl rfl ?_))
         intro r311 w313 hr312 hx314
         have hB315 := hB297.ext hx314
         have hB316 := hB298.ext hx314
         have hB317 := hB299.ext hx314
         have hF318 := hF300.ext hx314
         have hF319 := hF301.ext hx314
         have hF320 := hx314.e hF302 (Nat.le_refl _)
         have hF321 := hF303.ext hx314
         have hF322 := hF304.ext hx314
         have hF323 := hF305.ext hx314
         have hF324 := hF306.ext hx314
         have hE325 : Below w0.heap.size w0 w313 := hx314.e hE307 (Nat.le_refl _)
         have hz326 := hE325.le
         have hs327 := hx314.size
         have hS328 := hS310.trans (hx314.mono hS310.size)
         refine ⟨fun _ => hS328, ?_⟩
         refine d_e (by decide) (d_e' rfl rfl (e_addF (a := r311) (b := r293) rfl rfl ?_))
         intro r329 w331 hr330 hx332
         have hB333 := hB315.ext hx332
         have hB334 := hB316.ext hx332
         have hB335 := hB317.ext hx332
         have hF336 := hF318.ext hx332
         have hF337 := hF319.ext hx332
         have hF338 := hx332.e hF320 (Nat.le_refl _)
         have hF339 := hF321.ext hx332
         have hF340 := hF322.ext hx332
         have hF341 := hF323.ext hx332
         have hF342 := hF324.ext hx332
         have hE343 : Below w0.heap.size w0 w331 := hx332.e hE325 (Nat.le_refl _)
         have hz344 := hE343.le
         have hs345 := hx332.size
         have hS346 := hS328.trans (hx332.mono hS328.size)
         refine ⟨fun _ => hS346, ?_⟩
         refine d_q (v := .float .f64 r329) rfl rfl (fun _ => x_assign rfl) ?_
         refine d_done ?_
         refine kn209 _ _ ?_
         refine region ?_
         refine st_q (v := .float .f64 r192) (x_move rfl) ?_
         refine st_q (v := .float .f64 r329) (x_move rfl) ?_
         refine st_q (v := .float .f64 r192) (x_assign rfl) ?_
         refine st_q (v := .float .f64 r329) (x_assign rfl) ?_
         refine st_nil ?_
         refine kn127 _ _ ?_
         refine kn123 _ _ ?_
         refine region ?_
         refine st_q (v := .int .i64 ((i : Nat) : Int)) (x_move rfl) ?_
         refine st_q (v := .int .i64 (((i + 1) : Nat) : Int)) (x_addN rfl rfl (by omega)) ?_
         refine st_q (v := .int .i64 (((i + 1) : Nat) : Int)) (x_assign rfl) ?_
         refine st_nil ?_
         refine kn110 _ ((i + 1), r192, r329) _ ⟨rfl, rfl, rfl, rfl, rfl, trivial⟩ ⟨hF338, ?_⟩ ?_
         ·
          try dsimp only
          have f51 := hr161
          have f57 := hr177
          have f64 := hr312
          have f70 := hr294
          rw [el_map (by omega)] at f51 f57 f64 f70
          exact ⟨by omega, _, _, _, _, _, _, hTu, f51, f57, hr193, f64, f70, hr330⟩
         ·
          (try dsimp only); omega
       ·
        refine id (d_e' rfl rfl (e_mulF (a := v) (b := ((el (N.map Prod.snd) i))) rfl rfl ?_))
        intro r347 w349 hr348 hx350
        have hB351 := hB138.ext hx350
        have hB352 := hB139.ext hx350
        have hB353 := hB140.ext hx350
        have hF354 := hF141.ext hx350
        have hF355 := hF142.ext hx350
        have hF356 := hx350.e hF143 (Nat.le_refl _)
        have hF357 := hc151.ext hx350
        have hF358 := hc157.ext hx350
        have hE359 : Below w0.heap.size w0 w349 := hx350.e hE144 (Nat.le_refl _)
        have hz360 := hE359.le
        have hs361 := hx350.size
        have hS362 := hS147.trans (hx350.mono hS147.size)
        refine ⟨fun _ => hS362, ?_⟩
        refine d_e (by decide) (d_e' rfl rfl (e_mulF (a := u) (b := ((el (N.map Prod.fst) i))) rfl rfl ?_))
        intro r363 w365 hr364 hx366
        have hB367 := hB351.ext hx366
        have hB368 := hB352.ext hx366
        have hB369 := hB353.ext hx366
        have hF370 := hF354.ext hx366
        have hF371 := hF355.ext hx366
        have hF372 := hx366.e hF356 (Nat.le_refl _)
        have hF373 := hF357.ext hx366
        have hF374 := hF358.ext hx366
        have hE375 : Below w0.heap.size w0 w365 := hx366.e hE359 (Nat.le_refl _)
        have hz376 := hE375.le
        have hs377 := hx366.size
        have hS378 := hS362.trans (hx366.mono hS362.size)
        refine ⟨fun _ => hS378, ?_⟩
        refine d_e (by decide) (d_e' rfl rfl (e_subF (a := r363) (b := r347) rfl rfl ?_))
        intro r379 w381 hr380 hx382
        have hB383 := hB367.ext hx382
        have hB384 := hB368.ext hx382
        have hB385 := hB369.ext hx382
        have hF386 := hF370.ext hx382
        have hF387 := hF371.ext hx382
        have hF388 := hx382.e hF372 (Nat.le_refl _)
        have hF389 := hF373.ext hx382
        have hF390 := hF374.ext hx382
        have hE391 : Below w0.heap.size w0 w381 := hx382.e hE375 (Nat.le_refl _)
        have hz392 := hE391.le
        have hs393 := hx382.size
        have hS394 := hS378.trans (hx382.mono hS378.size)
        refine ⟨fun _ => hS394, ?_⟩
        refine d_q (v := .float .f64 r379) rfl rfl (fun _ => x_assign rfl) ?_
        refine d_done ?_
        refine kn132 _ _ ?_
        refine seqK fun Q395 kn396 kr397 ke398 => ?_
        refine regionD1 [4, 10] [0, 1, 2, 3, 4, 6, 7, 8, 9, 10, 13] (.one 0 (.one 1 (.one 2 (.one 3 (.one 4 (.one 6 (.one 7 (.one 8 (.one 9 (.one 10 (.two 5 (.one 11 (.one 12 (.one 13 .done))) 11 (.one 5 (.one 12 (.one 13 .done)))))))))))))) (by kernel_rfl) (by kernel_rfl) ?_
        intro w399 hx400 hs401
        have hB402 := hB383.ext hx400
        have hB403 := hB384.ext hx400
        have hB404 := hB385.ext hx400
        have hF405 := hF386.ext hx400
        have hF406 := hF387.ext hx400
        have hF407 := hx400.e hF388 (Nat.le_refl _)
        have hF408 := hF389.ext hx400
        have hF409 := hF390.ext hx400
        have hE410 : Below w0.heap.size w0 w399 := hx400.e hE391 (Nat.le_refl _)
        have hz411 := hE410.le
        have hs412 := hx400.size
        have hS413 : Ext w399 w399 := Below.refl _ _
        refine d_q (v := .float .f64 u) rfl rfl (fun _ => x_move rfl) ?_
        refine d_q (v := .slice aB N.length cB) rfl rfl (fun _ => x_move rfl) ?_
        refine d_q (v := .int .i64 ((i : Nat) : Int)) rfl rfl (fun _ => x_move rfl) ?_
        obtain ⟨b414, o415, ha416, hc417⟩ := hF406.src.at (by omega)
        refine d_q (v := .pointer (some ⟨b414, o415 + i * 1, none⟩)) rfl rfl (fun _ => x_index' T.sl78 rfl ha416 rfl (by omega)) ?_
        refine d_l (v := .float .f64 ((el (N.map Prod.snd) i))) rfl rfl rfl (fun v419 hw418 => x_load1 T.na22 rfl ((hc417.elem enF_len (i := i) (by omega)).ext hw418)) ?_
        refine d_q (v := .float .f64 v) rfl rfl (fun _ => x_move rfl) ?_
        refine d_q (v := .slice aA N.length cA) rfl rfl (fun _ => x_move rfl) ?_
        refine d_q (v := .int .i64 ((i : Nat) : Int)) rfl rfl (fun _ => x_move rfl) ?_
        obtain ⟨b420, o421, ha422, hc423⟩ := hF405.src.at (by omega)
        refine d_q (v := .pointer (some ⟨b420, o421 + i * 1, none⟩)) rfl rfl (fun _ => x_index' T.sl78 rfl ha422 rfl (by omega)) ?_
        refine d_l (v := .float .f64 ((el (N.map Prod.fst) i))) rfl rfl rfl (fun v425 hw424 => x_load1 T.na22 rfl ((hc423.elem enF_len (i := i) (by omega)).ext hw424)) ?_
        refine d_two ?_ ?_
        ·
         refine id (d_e' rfl rfl (e_mulF (a := u) (b := ((el (N.map Prod.snd) i))) rfl rfl ?_))
         intro r426 w428 hr427 hx429
         have hB430 := hB402.ext hx429
         have hB431 := hB403.ext hx429
         have hB432 := hB404.ext hx429
         have hF433 := hF405.ext hx429
         have hF434 := hF406.ext hx429
         have hF435 := hx429.e hF407 (Nat.le_refl _)
         have hF436 := hF408.ext hx429
         have hF437 := hF409.ext hx429
         have hF438 := hc417.ext hx429
         have hF439 := hc423.ext hx429
         have hE440 : Below w0.heap.size w0 w428 := hx429.e hE410 (Nat.le_refl _)
         have hz441 := hE440.le
         have hs442 := hx429.size
         have hS443 := hS413.trans (hx429.mono hS413.size)
         refine ⟨fun _ => hS443, ?_⟩
         refine d_e (by decide) (d_e' rfl rfl (e_mulF (a := v) (b := ((el (N.map Prod.fst) i))) rfl rfl ?_))
         intro r444 w446 hr445 hx447
         have hB448 := hB430.ext hx447
         have hB449 := hB431.ext hx447
         have hB450 := hB432.ext hx447
         have hF451 := hF433.ext hx447
         have hF452 := hF434.ext hx447
         have hF453 := hx447.e hF435 (Nat.le_refl _)
         have hF454 := hF436.ext hx447
         have hF455 := hF437.ext hx447
         have hF456 := hF438.ext hx447
         have hF457 := hF439.ext hx447
         have hE458 : Below w0.heap.size w0 w446 := hx447.e hE440 (Nat.le_refl _)
         have hz459 := hE458.le
         have hs460 := hx447.size
         have hS461 := hS443.trans (hx447.mono hS443.size)
         refine ⟨fun _ => hS461, ?_⟩
         refine d_e (by decide) (d_e' rfl rfl (e_addF (a := r426) (b := r444) rfl rfl ?_))
         intro r462 w464 hr463 hx465
         have hB466 := hB448.ext hx465
         have hB467 := hB449.ext hx465
         have hB468 := hB450.ext hx465
         have hF469 := hF451.ext hx465
         have hF470 := hF452.ext hx465
         have hF471 := hx465.e hF453 (Nat.le_refl _)
         have hF472 := hF454.ext hx465
         have hF473 := hF455.ext hx465
         have hF474 := hF456.ext hx465
         have hF475 := hF457.ext hx465
         have hE476 : Below w0.heap.size w0 w464 := hx465.e hE458 (Nat.le_refl _)
         have hz477 := hE476.le
         have hs478 := hx465.size
         have hS479 := hS461.trans (hx465.mono hS461.size)
         refine ⟨fun _ => hS479, ?_⟩
         refine d_q (v := .float .f64 r462) rfl rfl (fun _ => x_assign rfl) ?_
         refine d_done ?_
         refine kn396 _ _ ?_
         refine region ?_
         refine st_q (v := .float .f64 r379) (x_move rfl) ?_
         refine st_q (v := .float .f64 r462) (x_move rfl) ?_
         refine st_q (v := .float .f64 r379) (x_assign rfl) ?_
         refine st_q (v := .float .f64 r462) (x_assign rfl) ?_
         refine st_nil ?_
         refine kn127 _ _ ?_
         refine kn123 _ _ ?_
         refine region ?_
         refine st_q (v := .int .i64 ((i : Nat) : Int)) (x_move rfl) ?_
         refine st_q (v := .int .i64 (((i + 1) : Nat) : Int)) (x_addN rfl rfl (by omega)) ?_
         refine st_q (v := .int .i64 (((i + 1) : Nat) : Int)) (x_assign rfl) ?_
         refine st_nil ?_
         refine kn110 _ ((i + 1), r379, r462) _ ⟨rfl, rfl, rfl, rfl, rfl, trivial⟩ ⟨hF471, ?_⟩ ?_
         ·
          try dsimp only
          have f51 := hr364
          have f57 := hr348
          have f64 := hr427
          have f70 := hr445
          rw [el_map (by omega)] at f51 f57 f64 f70
          exact ⟨by omega, _, _, _, _, _, _, hTu, f51, f57, hr380, f64, f70, hr463⟩
         ·
          (try dsimp only); omega
        ·
         refine id (d_e' rfl rfl (e_mulF (a := v) (b := ((el (N.map Prod.fst) i))) rfl rfl ?_))
         intro r480 w482 hr481 hx483
         have hB484 := hB402.ext hx483
         have hB485 := hB403.ext hx483
         have hB486 := hB404.ext hx483
         have hF487 := hF405.ext hx483
         have hF488 := hF406.ext hx483
         have hF489 := hx483.e hF407 (Nat.le_refl _)
         have hF490 := hF408.ext hx483
         have hF491 := hF409.ext hx483
         have hF492 := hc417.ext hx483
         have hF493 := hc423.ext hx483
         have hE494 : Below w0.heap.size w0 w482 := hx483.e hE410 (Nat.le_refl _)
         have hz495 := hE494.le
         have hs496 := hx483.size
         have hS497 := hS413.trans (hx483.mono hS413.size)
         refine ⟨fun _ => hS497, ?_⟩
         refine d_e (by decide) (d_e' rfl rfl (e_mulF (a := u) (b := ((el (N.map Prod.snd) i))) rfl rfl ?_))
         intro r498 w500 hr499 hx501
         have hB502 := hB484.ext hx501
         have hB503 := hB485.ext hx501
         have hB504 := hB486.ext hx501
         have hF505 := hF487.ext hx501
         have hF506 := hF488.ext hx501
         have hF507 := hx501.e hF489 (Nat.le_refl _)
         have hF508 := hF490.ext hx501
         have hF509 := hF491.ext hx501
         have hF510 := hF492.ext hx501
         have hF511 := hF493.ext hx501
         have hE512 : Below w0.heap.size w0 w500 := hx501.e hE494 (Nat.le_refl _)
         have hz513 := hE512.le
         have hs514 := hx501.size
         have hS515 := hS497.trans (hx501.mono hS497.size)
         refine ⟨fun _ => hS515, ?_⟩
         refine d_e (by decide) (d_e' rfl rfl (e_addF (a := r498) (b := r480) rfl rfl ?_))
         intro r516 w518 hr517 hx519
         have hB520 := hB502.ext hx519
         have hB521 := hB503.ext hx519
         have hB522 := hB504.ext hx519
         have hF523 := hF505.ext hx519
         have hF524 := hF506.ext hx519
         have hF525 := hx519.e hF507 (Nat.le_refl _)
         have hF526 := hF508.ext hx519
         have hF527 := hF509.ext hx519
         have hF528 := hF510.ext hx519
         have hF529 := hF511.ext hx519
         have hE530 : Below w0.heap.size w0 w518 := hx519.e hE512 (Nat.le_refl _)
         have hz531 := hE530.le
         have hs532 := hx519.size
         have hS533 := hS515.trans (hx519.mono hS515.size)
         refine ⟨fun _ => hS533, ?_⟩
         refine d_q (v := .float .f64 r516) rfl rfl (fun _ => x_assign rfl) ?_
         refine d_done ?_
         refine kn396 _ _ ?_
         refine region ?_
         refine st_q (v := .float .f64 r379) (x_move rfl) ?_
         refine st_q (v := .float .f64 r516) (x_move rfl) ?_
         refine st_q (v := .float .f64 r379) (x_assign rfl) ?_
         refine st_q (v := .float .f64 r516) (x_assign rfl) ?_
         refine st_nil ?_
         refine kn127 _ _ ?_
         refine kn123 _ _ ?_
         refine region ?_
         refine st_q (v := .int .i64 ((i : Nat) : Int)) (x_move rfl) ?_
         refine st_q (v := .int .i64 (((i + 1) : Nat) : Int)) (x_addN rfl rfl (by omega)) ?_
         refine st_q (v := .int .i64 (((i + 1) : Nat) : Int)) (x_assign rfl) ?_
         refine st_nil ?_
         refine kn110 _ ((i + 1), r379, r516) _ ⟨rfl, rfl, rfl, rfl, rfl, trivial⟩ ⟨hF525, ?_⟩ ?_
         ·
          try dsimp only
          have f51 := hr364
          have f57 := hr348
          have f64 := hr499
          have f70 := hr481
          rw [el_map (by omega)] at f51 f57 f64 f70
          exact ⟨by omega, _, _, _, _, _, _, hTu, f51, f57, hr380, f64, f70, hr517⟩
         ·
          (try dsimp only); omega
      ·
       refine exit ?_
       refine ke116 _ _ _ ?_
       refine ke112 _ _ _ ?_
       refine kb96 _ _ ?_
       refine kn85 _ _ ?_
       refine seqK fun Q534 kn535 kr536 ke537 => ?_
       refine region ?_
       refine st_q (v := .float .f64 u) (x_move rfl) ?_
       refine st_q (v := .float .f64 v) (x_move rfl) ?_
       refine st_q (v := .float .f64 u) (x_assign rfl) ?_
       refine st_q (v := .float .f64 v) (x_assign rfl) ?_
       refine st_q (v := .int .i64 ((0 : Nat) : Int)) (x_assign rfl) ?_
       refine st_nil ?_
       refine kn535 _ _ ?_
       refine ret ?_
       refine leave3 (P := Tryd.prog) (fn := Tryd.f27) (t := 6) (u := 7) (s := 8) (v := .float .f64 u) (v' := .float .f64 v) (v'' := .int .i64 ((0 : Nat) : Int)) rfl rfl rfl rfl ?_
       obtain rfl : i = N.length := by omega
       rw [← hN]
       exact ⟨_, _, rfl, hE106, hTu⟩

end Go.Proofs.YtegpcbckiehleaaDoor
