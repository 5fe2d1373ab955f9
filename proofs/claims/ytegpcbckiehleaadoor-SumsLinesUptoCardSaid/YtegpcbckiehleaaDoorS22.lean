import Derived.Test.YtegpcbckiehleaaDoorS17A
import Derived.Test.YtegpcbckiehleaaDoorSRank
import Derived.Test.YtegpcbckiehleaaDoorSPts
namespace Go.Proofs.YtegpcbckiehleaaDoor
open Go.RowKit Go.Eng Go.OrdPure Go.Flt
theorem T.zv44 : ZV Tryd.prog 44 (.agg #[.slice none 0 0, .int .i64 ((0 : Nat) : Int), .int .i64 ((0 : Nat) : Int), .float .f64 0, .float .f64 0, .float .f64 0, .float .f64 0, .float .f64 0]) := fun _ => by kernel_rfl
theorem T.ag44 : AG Tryd.prog 44 8 := fun _ => ⟨by kernel_rfl, by kernel_rfl⟩
theorem T.sz44 : SZ Tryd.prog 44 8 := fun _ => by kernel_rfl
theorem T.cf49 : CF Tryd.prog 49 := fun _ _ => by kernel_rfl
theorem T.cf36 : CF Tryd.prog 36 := fun _ _ => by kernel_rfl
theorem T.cf28 : CF Tryd.prog 28 := fun _ _ => by kernel_rfl
theorem T.cf38 : CF Tryd.prog 38 := fun _ _ => by kernel_rfl
theorem T.cf37 : CF Tryd.prog 37 := fun _ _ => by kernel_rfl
theorem T.sl95 : SL Tryd.prog 95 62 1 16 (.complex .f64 0 0) := sl_mk Tryd.underlying95 (by kernel_rfl) rfl (by decide)

set_option maxHeartbeats 4000000 in
theorem points47 (pr : ByteArray) (ar : Int) (L : List Row) (va : Value) (c d : Nat) (w0 : World) (ha : Src w0.heap va L.length 1 (flat enR L)) (hL : RowsP w0.heap L) (hG : RightR ar (tp L)) (hC : badC ar ((c : Nat) : Int) = false) (hD : badC ar ((d : Nat) : Int) = false) (hn : L.length ≤ 1466015503701) (hsz : SizeL L) (hT : Laid w0) : Calls Tryd.prog 47 #[.agg #[.string pr, .int .i64 ar, va], .int .i64 ((c : Nat) : Int), .int .i64 ((d : Nat) : Int)] w0 fun e w' => ∃ v, e = .returned v ∧ Ext w0 w' ∧ Own w'.heap w0.heap.size 62 1 v (ptsL c d (setL (tp L))).length (flat enC (ptsL c d (setL (tp L)))) := by
  have hE0 : Below w0.heap.size w0 w0 := Below.refl _ _
  have hz0 := hE0.le
  obtain ⟨a, ca, rfl, hca, hca1⟩ := ha.form
  have hC2 : c < 16 ∧ ((c : Nat) : Int) < ar := by
    unfold badC at hC
    have h2 := of_decide_eq_false hC
    have := hG.2.2
    omega
  have hD2 : d < 16 ∧ ((d : Nat) : Int) < ar := by
    unfold badC at hD
    have h2 := of_decide_eq_false hD
    have := hG.2.2
    omega
  refine enter Tryd.func47 rfl 49 Tryd.ntmps47 rfl ?_
  refine seqK fun Q1 kn2 kr3 ke4 => ?_
  refine region ?_
  refine st_e (e_box (v := .agg #[.string pr, .int .i64 ar, .slice a L.length ca]) rfl ?_)
  intro w5 hA6
  have hx7 := hA6.ext
  have hs8 := hA6.size
  have hB9 : Blk w5.heap w0.heap.size [.string pr, .int .i64 ar, .slice a L.length ca] 29 := hA6.new
  have hE10 : Below w0.heap.size w0 w5 := hx7.e hE0 (Nat.le_refl _)
  have hz11 := hE10.le
  have hs12 := hx7.size
  refine st_q (v := .slice none 0 0) (x_assign rfl) ?_
  refine st_nil ?_
  refine kn2 _ _ ?_
  refine seqK fun Q13 kn14 kr15 ke16 => ?_
  refine region ?_
  refine st_q (v := .slice none 0 0) (x_assign rfl) ?_
  refine st_nil ?_
  refine kn14 _ _ ?_
  refine seqK fun Q17 kn18 kr19 ke20 => ?_
  refine seqK fun Q21 kn22 kr23 ke24 => ?_
  refine region ?_
  refine st_q (v := .agg #[.string pr, .int .i64 ar, .slice a L.length ca]) (x_loadA [.string pr, .int .i64 ar, .slice a L.length ca] T.ag29 rfl (hB9.cells 0 [.string pr, .int .i64 ar, .slice a L.length ca] (cells_at rfl))) ?_
  refine st_c (t_call [.agg #[.string pr, .int .i64 ar, .slice a L.length ca]] T.cf51 rfl rfl) (set51 pr ar L _ _ (ha.below hE10) (RowsP.below hL hE10) (by omega)) ?_
  rintro _ w25 ⟨vR, R, rfl, hx26, hO27, hRt, hRL⟩
  refine ⟨_, rfl, ?_⟩
  have hB28 := hB9.ext hx26
  have hE29 : Below w0.heap.size w0 w25 := hx26.e hE10 (Nat.le_refl _)
  have hz30 := hE29.le
  have hs31 := hx26.size
  have hRP : RowsP w25.heap R := fun x hx => RowsP.below hL hE29 x (hRL x hx)
  have hTB := hT.below hE29
  have hRn : R.length ≤ L.length := by have h := congrArg List.length hRt; rw [tp_len] at h; have h2 := setL_len (tp L); rw [tp_len] at h2; omega
  have hRm : ∀ x ∈ R, x.2 ∈ tp L := fun x hx => by have h : x.2 ∈ tp R := List.mem_map_of_mem hx; rw [hRt] at h; exact ((setL_is _).2 _).1 h
  have hRlen : ∀ x ∈ R, (x.2.length : Int) = ar := fun x hx => hG.1 _ (hRm x hx)
  have hRsz : SizeL R := fun x hx s hs => by obtain ⟨y, hy, e⟩ := List.mem_map.1 (hRm x hx); exact hsz y hy s (by rw [e]; exact hs)
  have hEB := hE29
  have hzB := hEB.le
  obtain ⟨aR, cR, rfl, hcR, hcR1⟩ := hO27.src.form
  have hRs := hO27.src
  have hE32 : Below w25.heap.size w25 w25 := Below.refl _ _
  have hz33 := hE32.le
  refine st_q (v := .int .i64 ((R.length : Nat) : Int)) (x_lenSl rfl Tryd.underlying27 rfl) ?_
  refine st_q (v := .int .i64 ((0 : Nat) : Int)) (x_move rfl) ?_
  refine st_nil ?_
  refine kn22 _ _ ?_
  refine blockK fun Q34 kn35 kr36 kx37 kb38 => ?_
  refine loopK (α := Nat × Value) (fun x => [(1, .int .i64 ((c : Nat) : Int)), (2, .int .i64 ((d : Nat) : Int)), (7, x.2), (15, .slice aR R.length cR), (16, .int .i64 ((R.length : Nat) : Int)), (17, .int .i64 ((x.1 : Nat) : Int))]) (fun x w39 => Below w25.heap.size w25 w39 ∧ x.1 ≤ R.length ∧ Own w39.heap w25.heap.size 62 1 x.2 (ptsL c d (tp (R.take x.1))).length (flat enC (ptsL c d (tp (R.take x.1))))) (fun x => R.length - x.1) (0, .slice none 0 0) ⟨rfl, rfl, rfl, rfl, rfl, rfl, trivial⟩ ?_ ?_
  ·
   refine ⟨hE32, ?_⟩
   try dsimp only
   exact ⟨Nat.zero_le _, Own.nil _ _ _ _⟩
  ·
   rintro τ40 ⟨i, vl⟩ w41 ⟨hx42, ⟨hi, hO⟩⟩
   try dsimp only at hi hO
   have hz43 := hx42.le
   intro Q44 kn45 kr46 ke47
   have hNl : (ptsL c d (tp (R.take i))).length ≤ i := Nat.le_trans (ptsL_len _ _ _) (by rw [tp_len, List.length_take]; omega)
   obtain ⟨N, hN⟩ : ∃ N, N = (ptsL c d (tp (R.take i))) := ⟨_, rfl⟩
   rw [← hN] at hO hNl
   obtain ⟨aN, cN, rfl, hcN, hcN1⟩ := hO.src.form
   refine seqK fun Q48 kn49 kr50 ke51 => ?_
   refine region ?_
   refine st_q (v := .bool (decide (i < R.length))) (x_lssN rfl rfl) ?_
   refine st_nil ?_
   refine kn49 _ _ ?_
   refine seqK fun Q52 kn53 kr54 ke55 => ?_
   refine cnd (p := i < R.length) rfl (fun h56 => ?_) (fun h56 => ?_)
   ·
    refine skip ?_
    refine kn53 _ _ ?_
    refine seqK fun Q57 kn58 kr59 ke60 => ?_
    refine blockK fun Q61 kn62 kr63 kx64 kb65 => ?_
    refine seqK fun Q66 kn67 kr68 ke69 => ?_
    refine region ?_
    obtain ⟨b70, o71, ha72, hc73⟩ := hRs.at (by omega)
    refine st_q (v := .pointer (some ⟨b70, o71 + i * 1, none⟩)) (x_index' T.sl27 rfl ha72 rfl (by omega)) ?_
    have hs74 := hRP _ (el_mem' (xs := R) (i := i) (by omega))
    have htl := hRlen _ (el_mem' (xs := R) (i := i) (by omega))
    refine st_q (v := .slice ((el R i).1.1) ((el R i).2.length) ((el R i).1.2)) (x_load1 T.na42 rfl ((hc73.below hx42).elem enR_len (i := i) (by omega))) ?_
    refine st_q (v := .slice ((el R i).1.1) ((el R i).2.length) ((el R i).1.2)) (x_assign rfl) ?_
    refine st_nil ?_
    refine kn67 _ _ ?_
    refine seqK fun Q75 kn76 kr77 ke78 => ?_
    refine region ?_
    refine st_q (v := .slice ((el R i).1.1) ((el R i).2.length) ((el R i).1.2)) (x_move rfl) ?_
    refine st_q (v := .int .i64 ((c : Nat) : Int)) (x_move rfl) ?_
    obtain ⟨b79, o80, ha81, hc82⟩ := hs74.at (by omega)
    refine st_q (v := .pointer (some ⟨b79, o80 + c * 1, none⟩)) (x_index' T.sl42 rfl ha81 rfl (by omega)) ?_
    refine st_q (v := .string (el (el R i).2 c)) (x_load1 T.na9 rfl ((hc82.below hx42).elem enS_len (i := c) (by omega))) ?_
    have hsz1 : (el (el R i).2 c).size ≤ maxLen := hRsz _ (el_mem' (i := i) (by omega)) _ (el_mem' (by omega))
    refine st_c (t_call [.string (el (el R i).2 c)] T.cf9 rfl rfl) (number9g (el (el R i).2 c) _ hsz1 (hTB.below hx42)) ?_
    rintro _ w83 ⟨rfl, hx84⟩
    refine ⟨_, rfl, ?_⟩
    have hF85 := hO.ext hx84
    have hE86 : Below w25.heap.size w25 w83 := hx84.e hx42 (Nat.le_refl _)
    have hz87 := hE86.le
    have hs88 := hx84.size
    refine st_q (v := .tuple #[.float .f64 (((num (el (el R i).2 c)).getD 0)), .bool ((num (el (el R i).2 c)).isSome)]) (x_move rfl) ?_
    refine st_q (v := .float .f64 (((num (el (el R i).2 c)).getD 0))) (x_extract rfl rfl) ?_
    refine st_q (v := .bool ((num (el (el R i).2 c)).isSome)) (x_extract rfl rfl) ?_
    refine st_q (v := .float .f64 (((num (el (el R i).2 c)).getD 0))) (x_assign rfl) ?_
    refine st_q (v := .bool ((num (el (el R i).2 c)).isSome)) (x_assign rfl) ?_
    refine st_nil ?_
    refine kn76 _ _ ?_
    refine seqK fun Q89 kn90 kr91 ke92 => ?_
    refine region ?_
    refine st_q (v := .slice ((el R i).1.1) ((el R i).2.length) ((el R i).1.2)) (x_move rfl) ?_
    refine st_q (v := .int .i64 ((d : Nat) : Int)) (x_move rfl) ?_
    refine st_q (v := .pointer (some ⟨b79, o80 + d * 1, none⟩)) (x_index' T.sl42 rfl ha81 rfl (by omega)) ?_
    refine st_q (v := .string (el (el R i).2 d)) (x_load1 T.na9 rfl ((hc82.below hE86).elem enS_len (i := d) (by omega))) ?_
    have hsz1 : (el (el R i).2 d).size ≤ maxLen := hRsz _ (el_mem' (i := i) (by omega)) _ (el_mem' (by omega))
    refine st_c (t_call [.string (el (el R i).2 d)] T.cf9 rfl rfl) (number9g (el (el R i).2 d) _ hsz1 (hTB.below hE86)) ?_
    rintro _ w93 ⟨rfl, hx94⟩
    refine ⟨_, rfl, ?_⟩
    have hF95 := hF85.ext hx94
    have hE96 : Below w25.heap.size w25 w93 := hx94.e hE86 (Nat.le_refl _)
    have hz97 := hE96.le
    have hs98 := hx94.size
    refine st_q (v := .tuple #[.float .f64 (((num (el (el R i).2 d)).getD 0)), .bool ((num (el (el R i).2 d)).isSome)]) (x_move rfl) ?_
    refine st_q (v := .float .f64 (((num (el (el R i).2 d)).getD 0))) (x_extract rfl rfl) ?_
    refine st_q (v := .bool ((num (el (el R i).2 d)).isSome)) (x_extract rfl rfl) ?_
    refine st_q (v := .float .f64 (((num (el (el R i).2 d)).getD 0))) (x_assign rfl) ?_
    refine st_q (v := .bool ((num (el (el R i).2 d)).isSome)) (x_assign rfl) ?_
    refine st_nil ?_
    refine kn90 _ _ ?_
    refine seqK fun Q99 kn100 kr101 ke102 => ?_
    refine region ?_
    refine st_q (v := .bool ((num (el (el R i).2 c)).isSome)) (x_move rfl) ?_
    refine st_if (p := (num (el (el R i).2 c)).isSome = true) (x_moveBB rfl) (fun h103 => ?_) (fun h103 => ?_)
    ·
     refine st_gq 1 38 rfl rfl (by decide) ?_
     refine st_q (v := .bool ((num (el (el R i).2 d)).isSome)) (x_move rfl) ?_
     refine st_q (v := .bool ((num (el (el R i).2 d)).isSome)) (x_pickT rfl rfl) ?_
     refine st_nil ?_
     refine kn100 _ _ ?_
     refine cndB (b := (num (el (el R i).2 d)).isSome) rfl (fun h104 => ?_) (fun h104 => ?_)
     ·
      refine region ?_
      refine st_q (v := .slice aN N.length cN) (x_move rfl) ?_
      refine st_q (v := .float .f64 (((num (el (el R i).2 c)).getD 0))) (x_move rfl) ?_
      refine st_q (v := .float .f64 (((num (el (el R i).2 d)).getD 0))) (x_move rfl) ?_
      refine st_q (v := .complex .f64 (((num (el (el R i).2 c)).getD 0)) (((num (el (el R i).2 d)).getD 0))) (x_complex rfl rfl) ?_
      refine st_e (e_buildSlice (cs := [.complex .f64 (((num (el (el R i).2 c)).getD 0)) (((num (el (el R i).2 d)).getD 0))]) (e := 62) (fun _ => by kernel_rfl) ?_)
      intro w105 hA106
      have hx107 := hA106.ext
      have hs108 := hA106.size
      have hB109 : Blk w105.heap w93.heap.size [.complex .f64 (((num (el (el R i).2 c)).getD 0)) (((num (el (el R i).2 d)).getD 0))] 62 := hA106.new
      have hF110 := hF95.ext hx107
      have hE111 : Below w25.heap.size w25 w105 := hx107.e hE96 (Nat.le_refl _)
      have hz112 := hE111.le
      have hs113 := hx107.size
      refine st_e (e_appendX T.sl95 rfl rfl hF110 (hB109.src1 (k := 1) (m := 1) rfl (by omega)) (ones (by rfl)) (by omega) (by decide) (by omega) ?_)
      intro v114 w115 hO116 hG117 hN118 hW119
      have hE120 : Below w25.heap.size w25 w115 := grown_below hG117 hE111 (Nat.le_refl _) (fun b hb => (by have := (hF110.lt hb).1; clear hb; omega))
      have hz121 := hE120.le
      have hs122 := hG117.size
      have hO123 := Own.snoc (enc := enC) (u := (((num (el (el R i).2 c)).getD 0), ((num (el (el R i).2 d)).getD 0))) hO116
      obtain ⟨a124, c125, rfl, hm126, hm127⟩ := hO123.src.form
      refine st_q (v := .slice a124 ((N.length + 1)) c125) (x_assign rfl) ?_
      refine st_nil ?_
      refine kn62 _ _ ?_
      refine kn58 _ _ ?_
      refine region ?_
      refine st_q (v := .int .i64 (((i + 1) : Nat) : Int)) (x_addN rfl rfl (by omega)) ?_
      refine st_q (v := .int .i64 (((i + 1) : Nat) : Int)) (x_move rfl) ?_
      refine st_nil ?_
      refine kn45 _ ((i + 1), .slice a124 ((N.length + 1)) c125) _ ⟨rfl, rfl, rfl, rfl, rfl, rfl, trivial⟩ ⟨hE120, ?_⟩ ?_
      ·
       try dsimp only
       refine ⟨by omega, ?_⟩
       rw [tp_take_succ (by omega), ptsL_yes (by assumption) (by assumption), ← hN, List.length_append]
       exact hO123
      ·
       (try dsimp only); omega
     ·
      refine skip ?_
      refine kn62 _ _ ?_
      refine kn58 _ _ ?_
      refine region ?_
      refine st_q (v := .int .i64 (((i + 1) : Nat) : Int)) (x_addN rfl rfl (by omega)) ?_
      refine st_q (v := .int .i64 (((i + 1) : Nat) : Int)) (x_move rfl) ?_
      refine st_nil ?_
      refine kn45 _ ((i + 1), .slice aN N.length cN) _ ⟨rfl, rfl, rfl, rfl, rfl, rfl, trivial⟩ ⟨hE96, ?_⟩ ?_
      ·
       try dsimp only
       refine ⟨by omega, ?_⟩
       rw [tp_take_succ (by omega), ptsL_no (fun e => by first | exact absurd e.1 (by assumption) | exact absurd e.2 (by rw [(by assumption : (num (el (el R i).2 d)).isSome = false)]; decide)), ← hN]
       exact hF95
      ·
       (try dsimp only); omega
    ·
     refine st_gn 1 38 rfl rfl (by decide) rfl ?_
     refine st_q (v := .bool false) (x_pickF rfl rfl) ?_
     refine st_nil ?_
     refine kn100 _ _ ?_
     refine cndF rfl ?_
     refine skip ?_
     refine kn62 _ _ ?_
     refine kn58 _ _ ?_
     refine region ?_
     refine st_q (v := .int .i64 (((i + 1) : Nat) : Int)) (x_addN rfl rfl (by omega)) ?_
     refine st_q (v := .int .i64 (((i + 1) : Nat) : Int)) (x_move rfl) ?_
     refine st_nil ?_
     refine kn45 _ ((i + 1), .slice aN N.length cN) _ ⟨rfl, rfl, rfl, rfl, rfl, rfl, trivial⟩ ⟨hE96, ?_⟩ ?_
     ·
      try dsimp only
      refine ⟨by omega, ?_⟩
      rw [tp_take_succ (by omega), ptsL_no (fun e => by first | exact absurd e.1 (by assumption) | exact absurd e.2 (by rw [(by assumption : (num (el (el R i).2 d)).isSome = false)]; decide)), ← hN]
      exact hF95
     ·
      (try dsimp only); omega
   ·
    refine exit ?_
    refine ke55 _ _ _ ?_
    refine ke47 _ _ _ ?_
    refine kb38 _ _ ?_
    refine kn18 _ _ ?_
    refine seqK fun Q128 kn129 kr130 ke131 => ?_
    refine region ?_
    refine st_q (v := .slice aN N.length cN) (x_move rfl) ?_
    refine st_q (v := .slice aN N.length cN) (x_assign rfl) ?_
    refine st_nil ?_
    refine kn129 _ _ ?_
    refine ret ?_
    refine leave1 (P := Tryd.prog) (fn := Tryd.f47) (t := 6) (v := .slice aN N.length cN) rfl rfl ?_
    have e : (ptsL c d (setL (tp L))) = N := by rw [hN, ← hRt, show i = R.length by omega, List.take_length]
    rw [e]
    exact ⟨_, rfl, Below.e hx42 hEB (Nat.le_refl _), hO.weak (by omega)⟩

set_option maxHeartbeats 4000000 in
theorem refpoints48 (pr : ByteArray) (ar : Int) (L : List Row) (va : Value) (c d : Nat) (w0 : World) (ha : Src w0.heap va L.length 1 (flat enR L)) (hL : RowsP w0.heap L) (hG : RightR ar (tp L)) (hC : badC ar ((c : Nat) : Int) = false) (hD : badC ar ((d : Nat) : Int) = false) (hn : L.length ≤ 1466015503701) (hsz : SizeL L) : Calls Tryd.prog 48 #[.agg #[.string pr, .int .i64 ar, va], .int .i64 ((c : Nat) : Int), .int .i64 ((d : Nat) : Int)] w0 fun e w' => ∃ v1 v2, e = .returned (.tuple #[v1, v2]) ∧ Ext w0 w' ∧ Own w'.heap w0.heap.size 22 1 v1 (ptsL c d (setL (tp L))).length (flat enF ((ptsL c d (setL (tp L))).map Prod.fst)) ∧ Own w'.heap w0.heap.size 22 1 v2 (ptsL c d (setL (tp L))).length (flat enF ((ptsL c d (setL (tp L))).map Prod.snd)) := by
  have hE0 : Below w0.heap.size w0 w0 := Below.refl _ _
  have hz0 := hE0.le
  obtain ⟨a, ca, rfl, hca, hca1⟩ := ha.form
  have hC2 : c < 16 ∧ ((c : Nat) : Int) < ar := by
    unfold badC at hC
    have h2 := of_decide_eq_false hC
    have := hG.2.2
    omega
  have hD2 : d < 16 ∧ ((d : Nat) : Int) < ar := by
    unfold badC at hD
    have h2 := of_decide_eq_false hD
    have := hG.2.2
    omega
  refine enter Tryd.func48 rfl 61 Tryd.ntmps48 rfl ?_
  refine seqK fun Q1 kn2 kr3 ke4 => ?_
  refine region ?_
  refine st_e (e_box (v := .agg #[.string pr, .int .i64 ar, .slice a L.length ca]) rfl ?_)
  intro w5 hA6
  have hx7 := hA6.ext
  have hs8 := hA6.size
  have hB9 : Blk w5.heap w0.heap.size [.string pr, .int .i64 ar, .slice a L.length ca] 29 := hA6.new
  have hE10 : Below w0.heap.size w0 w5 := hx7.e hE0 (Nat.le_refl _)
  have hz11 := hE10.le
  have hs12 := hx7.size
  refine st_q (v := .slice none 0 0) (x_assign rfl) ?_
  refine st_q (v := .slice none 0 0) (x_assign rfl) ?_
  refine st_nil ?_
  refine kn2 _ _ ?_
  refine seqK fun Q13 kn14 kr15 ke16 => ?_
  refine region ?_
  refine st_q (v := .pointer (some ⟨w0.heap.size, 2, none⟩)) (x_field (o := 0) T.fa29_2 rfl) ?_
  refine st_q (v := .slice a L.length ca) (x_load1 T.na27 rfl (hB9.one 2 rfl)) ?_
  have hw : ∀ x ∈ L, x.2.length ≤ 4398046511104 := fun x hx => by have h : ((x.2.length : Nat) : Int) = ar := hG.1 _ (show x.2 ∈ tp L from List.mem_map_of_mem hx); have := hG.2.2; omega
  refine st_c (t_call [.slice a L.length ca] T.cf22 rfl rfl) (refset22 L _ _ (ha.below hE10) (RowsP.below hL hE10) (by omega) hw) ?_
  rintro _ w17 ⟨vR, R, rfl, hx18, hRt, hO19, hRW⟩
  refine ⟨_, rfl, ?_⟩
  have hB20 := hB9.ext hx18
  have hE21 : Below w0.heap.size w0 w17 := hx18.e hE10 (Nat.le_refl _)
  have hz22 := hE21.le
  have hs23 := hx18.size
  have hRP := hRW.rowsP
  have hRn : R.length ≤ L.length := by have h := congrArg List.length hRt; rw [tp_len] at h; have h2 := setL_len (tp L); rw [tp_len] at h2; omega
  have hRm : ∀ x ∈ R, x.2 ∈ tp L := fun x hx => by have h : x.2 ∈ tp R := List.mem_map_of_mem hx; rw [hRt] at h; exact ((setL_is _).2 _).1 h
  have hRlen : ∀ x ∈ R, (x.2.length : Int) = ar := fun x hx => hG.1 _ (hRm x hx)
  have hRsz : SizeL R := fun x hx s hs => by obtain ⟨y, hy, e⟩ := List.mem_map.1 (hRm x hx); exact hsz y hy s (by rw [e]; exact hs)
  have hEB := hE21
  have hzB := hEB.le
  obtain ⟨aR, cR, rfl, hcR, hcR1⟩ := hO19.src.form
  have hRs := hO19.src
  have hE24 : Below w17.heap.size w17 w17 := Below.refl _ _
  have hz25 := hE24.le
  refine st_q (v := .slice aR R.length cR) (x_assign rfl) ?_
  refine st_nil ?_
  refine kn14 _ _ ?_
  refine seqK fun Q26 kn27 kr28 ke29 => ?_
  refine region ?_
  refine st_q (v := .slice none 0 0) (x_assign rfl) ?_
  refine st_q (v := .slice none 0 0) (x_assign rfl) ?_
  refine st_nil ?_
  refine kn27 _ _ ?_
  refine seqK fun Q30 kn31 kr32 ke33 => ?_
  refine seqK fun Q34 kn35 kr36 ke37 => ?_
  refine region ?_
  refine st_q (v := .int .i64 ((0 : Nat) : Int)) (x_assign rfl) ?_
  refine st_nil ?_
  refine kn35 _ _ ?_
  refine blockK fun Q38 kn39 kr40 kx41 kb42 => ?_
  refine loopK (α := Nat × Value × Value) (fun x => [(1, .int .i64 ((c : Nat) : Int)), (2, .int .i64 ((d : Nat) : Int)), (8, .slice aR R.length cR), (9, x.2.1), (10, x.2.2), (11, .int .i64 ((x.1 : Nat) : Int))]) (fun x w43 => Below w17.heap.size w17 w43 ∧ x.1 ≤ R.length ∧ Own w43.heap w17.heap.size 22 1 x.2.1 (ptsL c d (tp (R.take x.1))).length (flat enF ((ptsL c d (tp (R.take x.1))).map Prod.fst)) ∧ Own w43.heap w17.heap.size 22 1 x.2.2 (ptsL c d (tp (R.take x.1))).length (flat enF ((ptsL c d (tp (R.take x.1))).map Prod.snd)) ∧ ∀ z, Value.ownBlock x.2.1 = some z → Value.ownBlock x.2.2 ≠ some z) (fun x => R.length - x.1) (0, .slice none 0 0, .slice none 0 0) ⟨rfl, rfl, rfl, rfl, rfl, rfl, trivial⟩ ?_ ?_
  ·
   refine ⟨hE24, ?_⟩
   try dsimp only
   exact ⟨Nat.zero_le _, Own.nil _ _ _ _, Own.nil _ _ _ _, fun z h => (by cases h)⟩
  ·
   rintro τ44 ⟨i, v1, v2⟩ w45 ⟨hx46, ⟨hi, hO, hP, hap⟩⟩
   try dsimp only at hi hO hP hap
   have hz47 := hx46.le
   intro Q48 kn49 kr50 ke51
   have hNl : (ptsL c d (tp (R.take i))).length ≤ i := Nat.le_trans (ptsL_len _ _ _) (by rw [tp_len, List.length_take]; omega)
   obtain ⟨N, hN⟩ : ∃ N, N = (ptsL c d (tp (R.take i))) := ⟨_, rfl⟩
   rw [← hN] at hO hP hNl
   obtain ⟨aA, cA, rfl, hcA, hcA1⟩ := hO.src.form
   obtain ⟨aB, cB, rfl, hcB, hcB1⟩ := hP.src.form
   refine seqK fun Q52 kn53 kr54 ke55 => ?_
   refine seqK fun Q56 kn57 kr58 ke59 => ?_
   refine region ?_
   refine st_q (v := .int .i64 ((i : Nat) : Int)) (x_move rfl) ?_
   refine st_q (v := .slice aR R.length cR) (x_move rfl) ?_
   refine st_q (v := .int .i64 ((R.length : Nat) : Int)) (x_lenSl rfl Tryd.underlying27 rfl) ?_
   refine st_q (v := .bool (decide (i < R.length))) (x_lssN rfl rfl) ?_
   refine st_nil ?_
   refine kn57 _ _ ?_
   refine cnd (p := i < R.length) rfl (fun h60 => ?_) (fun h60 => ?_)
   ·
    refine skip ?_
    refine kn53 _ _ ?_
    refine seqK fun Q61 kn62 kr63 ke64 => ?_
    refine blockK fun Q65 kn66 kr67 kx68 kb69 => ?_
    refine seqK fun Q70 kn71 kr72 ke73 => ?_
    refine region ?_
    refine st_q (v := .slice aR R.length cR) (x_move rfl) ?_
    refine st_q (v := .int .i64 ((i : Nat) : Int)) (x_move rfl) ?_
    obtain ⟨b74, o75, ha76, hc77⟩ := hRs.at (by omega)
    refine st_q (v := .pointer (some ⟨b74, o75 + i * 1, none⟩)) (x_index' T.sl27 rfl ha76 rfl (by omega)) ?_
    have hs78 := hRP _ (el_mem' (xs := R) (i := i) (by omega))
    have htl := hRlen _ (el_mem' (xs := R) (i := i) (by omega))
    refine st_q (v := .slice ((el R i).1.1) ((el R i).2.length) ((el R i).1.2)) (x_load1 T.na42 rfl ((hc77.below hx46).elem enR_len (i := i) (by omega))) ?_
    refine st_q (v := .int .i64 ((c : Nat) : Int)) (x_move rfl) ?_
    obtain ⟨b79, o80, ha81, hc82⟩ := hs78.at (by omega)
    refine st_q (v := .pointer (some ⟨b79, o80 + c * 1, none⟩)) (x_index' T.sl42 rfl ha81 rfl (by omega)) ?_
    refine st_q (v := .string (el (el R i).2 c)) (x_load1 T.na9 rfl ((hc82.below hx46).elem enS_len (i := c) (by omega))) ?_
    have hsz1 : (el (el R i).2 c).size ≤ maxLen := hRsz _ (el_mem' (i := i) (by omega)) _ (el_mem' (by omega))
    refine st_c (t_call [.string (el (el R i).2 c)] T.cf10 rfl rfl) (number10g (el (el R i).2 c) _ hsz1) ?_
    rintro _ w83 ⟨rfl, hx84⟩
    refine ⟨_, rfl, ?_⟩
    have hF85 := hO.ext hx84
    have hF86 := hP.ext hx84
    have hE87 : Below w17.heap.size w17 w83 := hx84.e hx46 (Nat.le_refl _)
    have hz88 := hE87.le
    have hs89 := hx84.size
    refine st_q (v := .tuple #[.float .f64 (((num (el (el R i).2 c)).getD 0)), .bool ((num (el (el R i).2 c)).isSome)]) (x_move rfl) ?_
    refine st_q (v := .float .f64 (((num (el (el R i).2 c)).getD 0))) (x_extract rfl rfl) ?_
    refine st_q (v := .bool ((num (el (el R i).2 c)).isSome)) (x_extract rfl rfl) ?_
    refine st_q (v := .float .f64 (((num (el (el R i).2 c)).getD 0))) (x_assign rfl) ?_
    refine st_q (v := .bool ((num (el (el R i).2 c)).isSome)) (x_assign rfl) ?_
    refine st_nil ?_
    refine kn71 _ _ ?_
    refine seqK fun Q90 kn91 kr92 ke93 => ?_
    refine region ?_
    refine st_q (v := .slice aR R.length cR) (x_move rfl) ?_
    refine st_q (v := .int .i64 ((i : Nat) : Int)) (x_move rfl) ?_
    refine st_q (v := .pointer (some ⟨b74, o75 + i * 1, none⟩)) (x_index' T.sl27 rfl ha76 rfl (by omega)) ?_
    have hs94 := hRP _ (el_mem' (xs := R) (i := i) (by omega))
    have htl := hRlen _ (el_mem' (xs := R) (i := i) (by omega))
    refine st_q (v := .slice ((el R i).1.1) ((el R i).2.length) ((el R i).1.2)) (x_load1 T.na42 rfl ((hc77.below hE87).elem enR_len (i := i) (by omega))) ?_
    refine st_q (v := .int .i64 ((d : Nat) : Int)) (x_move rfl) ?_
    refine st_q (v := .pointer (some ⟨b79, o80 + d * 1, none⟩)) (x_index' T.sl42 rfl ha81 rfl (by omega)) ?_
    refine st_q (v := .string (el (el R i).2 d)) (x_load1 T.na9 rfl ((hc82.below hE87).elem enS_len (i := d) (by omega))) ?_
    have hsz1 : (el (el R i).2 d).size ≤ maxLen := hRsz _ (el_mem' (i := i) (by omega)) _ (el_mem' (by omega))
    refine st_c (t_call [.string (el (el R i).2 d)] T.cf10 rfl rfl) (number10g (el (el R i).2 d) _ hsz1) ?_
    rintro _ w95 ⟨rfl, hx96⟩
    refine ⟨_, rfl, ?_⟩
    have hF97 := hF85.ext hx96
    have hF98 := hF86.ext hx96
    have hE99 : Below w17.heap.size w17 w95 := hx96.e hE87 (Nat.le_refl _)
    have hz100 := hE99.le
    have hs101 := hx96.size
    refine st_q (v := .tuple #[.float .f64 (((num (el (el R i).2 d)).getD 0)), .bool ((num (el (el R i).2 d)).isSome)]) (x_move rfl) ?_
    refine st_q (v := .float .f64 (((num (el (el R i).2 d)).getD 0))) (x_extract rfl rfl) ?_
    refine st_q (v := .bool ((num (el (el R i).2 d)).isSome)) (x_extract rfl rfl) ?_
    refine st_q (v := .float .f64 (((num (el (el R i).2 d)).getD 0))) (x_assign rfl) ?_
    refine st_q (v := .bool ((num (el (el R i).2 d)).isSome)) (x_assign rfl) ?_
    refine st_nil ?_
    refine kn91 _ _ ?_
    refine seqK fun Q102 kn103 kr104 ke105 => ?_
    refine region ?_
    refine st_q (v := .bool ((num (el (el R i).2 c)).isSome)) (x_move rfl) ?_
    refine st_if (p := (num (el (el R i).2 c)).isSome = true) (x_moveBB rfl) (fun h106 => ?_) (fun h106 => ?_)
    ·
     refine st_gq 1 48 rfl rfl (by decide) ?_
     refine st_q (v := .bool ((num (el (el R i).2 d)).isSome)) (x_move rfl) ?_
     refine st_q (v := .bool ((num (el (el R i).2 d)).isSome)) (x_pickT rfl rfl) ?_
     refine st_nil ?_
     refine kn103 _ _ ?_
     refine cndB (b := (num (el (el R i).2 d)).isSome) rfl (fun h107 => ?_) (fun h107 => ?_)
     ·
      refine seqK fun Q108 kn109 kr110 ke111 => ?_
      refine region ?_
      refine st_q (v := .slice aA N.length cA) (x_move rfl) ?_
      refine st_q (v := .float .f64 (((num (el (el R i).2 c)).getD 0))) (x_move rfl) ?_
      refine st_e (e_buildSlice (cs := [.float .f64 (((num (el (el R i).2 c)).getD 0))]) (e := 22) (fun _ => by kernel_rfl) ?_)
      intro w112 hA113
      have hx114 := hA113.ext
      have hs115 := hA113.size
      have hB116 : Blk w112.heap w95.heap.size [.float .f64 (((num (el (el R i).2 c)).getD 0))] 22 := hA113.new
      have hF117 := hF97.ext hx114
      have hF118 := hF98.ext hx114
      have hE119 : Below w17.heap.size w17 w112 := hx114.e hE99 (Nat.le_refl _)
      have hz120 := hE119.le
      have hs121 := hx114.size
      have hBlt : ∀ z, Value.ownBlock (.slice aB N.length cB) = some z → z < w112.heap.size := fun z e => (hF118.lt e).2
      refine st_e (e_appendX T.sl78 rfl rfl hF117 (hB116.src1 (k := 1) (m := 1) rfl (by omega)) (ones (by rfl)) (by omega) (by decide) (by omega) ?_)
      intro v122 w123 hO124 hG125 hN126 hW127
      have hF128 := hF118.grown hG125 (fun z hz e => hap z e hz)
      have hE129 : Below w17.heap.size w17 w123 := grown_below hG125 hE119 (Nat.le_refl _) (fun b hb => (by have := (hF117.lt hb).1; clear hb; omega))
      have hz130 := hE129.le
      have hs131 := hG125.size
      have hO132 := Own.snoc (enc := enF) (u := ((num (el (el R i).2 c)).getD 0)) hO124
      obtain ⟨a133, c134, rfl, hm135, hm136⟩ := hO132.src.form
      have hap2 : ∀ z, Value.ownBlock (.slice a133 ((N.length + 1)) c134) = some z → Value.ownBlock (.slice aB N.length cB) ≠ some z := apart_where (A := .slice aA N.length cA) hap hW127 (fun z e => by have := hBlt z e; omega)
      refine st_q (v := .slice a133 ((N.length + 1)) c134) (x_assign rfl) ?_
      refine st_nil ?_
      refine kn109 _ _ ?_
      refine region ?_
      refine st_q (v := .slice aB N.length cB) (x_move rfl) ?_
      refine st_q (v := .float .f64 (((num (el (el R i).2 d)).getD 0))) (x_move rfl) ?_
      refine st_e (e_buildSlice (cs := [.float .f64 (((num (el (el R i).2 d)).getD 0))]) (e := 22) (fun _ => by kernel_rfl) ?_)
      intro w137 hA138
      have hx139 := hA138.ext
      have hs140 := hA138.size
      have hB141 : Blk w137.heap w123.heap.size [.float .f64 (((num (el (el R i).2 d)).getD 0))] 22 := hA138.new
      have hF142 := hF128.ext hx139
      have hF143 := hO132.ext hx139
      have hE144 : Below w17.heap.size w17 w137 := hx139.e hE129 (Nat.le_refl _)
      have hz145 := hE144.le
      have hs146 := hx139.size
      have hAlt : ∀ z, Value.ownBlock (.slice a133 ((N.length + 1)) c134) = some z → z < w137.heap.size := fun z e => (hF143.lt e).2
      refine st_e (e_appendX T.sl78 rfl rfl hF142 (hB141.src1 (k := 1) (m := 1) rfl (by omega)) (ones (by rfl)) (by omega) (by decide) (by omega) ?_)
      intro v147 w148 hO149 hG150 hN151 hW152
      have hF153 := hF143.grown hG150 (fun z hz e => hap2 z hz e)
      have hE154 : Below w17.heap.size w17 w148 := grown_below hG150 hE144 (Nat.le_refl _) (fun b hb => (by have := (hF142.lt hb).1; clear hb; omega))
      have hz155 := hE154.le
      have hs156 := hG150.size
      have hO157 := Own.snoc (enc := enF) (u := ((num (el (el R i).2 d)).getD 0)) hO149
      obtain ⟨a158, c159, rfl, hm160, hm161⟩ := hO157.src.form
      have hap3 := fun z h1 h2 => apart_where (A := .slice aB N.length cB) (B := .slice a133 ((N.length + 1)) c134) (fun z h1 h2 => hap2 z h2 h1) hW152 (fun z e => by have := hAlt z e; omega) z h2 h1
      refine st_q (v := .slice a158 ((N.length + 1)) c159) (x_assign rfl) ?_
      refine st_nil ?_
      refine kn66 _ _ ?_
      refine kn62 _ _ ?_
      refine region ?_
      refine st_q (v := .int .i64 ((i : Nat) : Int)) (x_move rfl) ?_
      refine st_q (v := .int .i64 (((i + 1) : Nat) : Int)) (x_addN rfl rfl (by omega)) ?_
      refine st_q (v := .int .i64 (((i + 1) : Nat) : Int)) (x_assign rfl) ?_
      refine st_nil ?_
      refine kn49 _ ((i + 1), .slice a133 ((N.length + 1)) c134, .slice a158 ((N.length + 1)) c159) _ ⟨rfl, rfl, rfl, rfl, rfl, rfl, trivial⟩ ⟨hE154, ?_⟩ ?_
      ·
       try dsimp only
       refine ⟨by omega, ?_⟩
       rw [tp_take_succ (by omega), ptsL_yes (by assumption) (by assumption), ← hN, List.length_append, List.map_append, List.map_append]
       exact ⟨hF153, hO157, hap3⟩
      ·
       (try dsimp only); omega
     ·
      refine skip ?_
      refine kn66 _ _ ?_
      refine kn62 _ _ ?_
      refine region ?_
      refine st_q (v := .int .i64 ((i : Nat) : Int)) (x_move rfl) ?_
      refine st_q (v := .int .i64 (((i + 1) : Nat) : Int)) (x_addN rfl rfl (by omega)) ?_
      refine st_q (v := .int .i64 (((i + 1) : Nat) : Int)) (x_assign rfl) ?_
      refine st_nil ?_
      refine kn49 _ ((i + 1), .slice aA N.length cA, .slice aB N.length cB) _ ⟨rfl, rfl, rfl, rfl, rfl, rfl, trivial⟩ ⟨hE99, ?_⟩ ?_
      ·
       try dsimp only
       refine ⟨by omega, ?_⟩
       rw [tp_take_succ (by omega), ptsL_no (fun e => by first | exact absurd e.1 (by assumption) | exact absurd e.2 (by rw [(by assumption : (num (el (el R i).2 d)).isSome = false)]; decide)), ← hN]
       exact ⟨hF97, hF98, hap⟩
      ·
       (try dsimp only); omega
    ·
     refine st_gn 1 48 rfl rfl (by decide) rfl ?_
     refine st_q (v := .bool false) (x_pickF rfl rfl) ?_
     refine st_nil ?_
     refine kn103 _ _ ?_
     refine cndF rfl ?_
     refine skip ?_
     refine kn66 _ _ ?_
     refine kn62 _ _ ?_
     refine region ?_
     refine st_q (v := .int .i64 ((i : Nat) : Int)) (x_move rfl) ?_
     refine st_q (v := .int .i64 (((i + 1) : Nat) : Int)) (x_addN rfl rfl (by omega)) ?_
     refine st_q (v := .int .i64 (((i + 1) : Nat) : Int)) (x_assign rfl) ?_
     refine st_nil ?_
     refine kn49 _ ((i + 1), .slice aA N.length cA, .slice aB N.length cB) _ ⟨rfl, rfl, rfl, rfl, rfl, rfl, trivial⟩ ⟨hE99, ?_⟩ ?_
     ·
      try dsimp only
      refine ⟨by omega, ?_⟩
      rw [tp_take_succ (by omega), ptsL_no (fun e => by first | exact absurd e.1 (by assumption) | exact absurd e.2 (by rw [(by assumption : (num (el (el R i).2 d)).isSome = false)]; decide)), ← hN]
      exact ⟨hF97, hF98, hap⟩
     ·
      (try dsimp only); omega
   ·
    refine exit ?_
    refine ke55 _ _ _ ?_
    refine ke51 _ _ _ ?_
    refine kb42 _ _ ?_
    refine kn31 _ _ ?_
    refine seqK fun Q162 kn163 kr164 ke165 => ?_
    refine region ?_
    refine st_q (v := .slice aA N.length cA) (x_move rfl) ?_
    refine st_q (v := .slice aB N.length cB) (x_move rfl) ?_
    refine st_q (v := .slice aA N.length cA) (x_assign rfl) ?_
    refine st_q (v := .slice aB N.length cB) (x_assign rfl) ?_
    refine st_nil ?_
    refine kn163 _ _ ?_
    refine ret ?_
    refine leave2 (P := Tryd.prog) (fn := Tryd.f48) (t := 6) (u := 7) (v := .slice aA N.length cA) (v' := .slice aB N.length cB) rfl rfl rfl ?_
    have e : (ptsL c d (setL (tp L))) = N := by rw [hN, ← hRt, show i = R.length by omega, List.take_length]
    rw [e]
    exact ⟨_, _, rfl, Below.e hx46 hEB (Nat.le_refl _), hO.weak (by omega), hP.weak (by omega)⟩

end Go.Proofs.YtegpcbckiehleaaDoor
