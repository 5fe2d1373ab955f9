import Derived.Test.YtgfolockecjlnaaAgrees0
namespace Go.Proofs.Ytgfolockecjlnaa
open Go.RowKit Go.Eng Go.OrdPure Go.HeapPure
theorem T.cf23 : CF Try.prog 23 := fun _ _ => by kernel_rfl
theorem T.cf26 : CF Try.prog 26 := fun _ _ => by kernel_rfl
theorem T.cf25 : CF Try.prog 25 := fun _ _ => by kernel_rfl
theorem T.cf37 : CF Try.prog 37 := fun _ _ => by kernel_rfl
theorem T.cf28 : CF Try.prog 28 := fun _ _ => by kernel_rfl

set_option maxHeartbeats 4000000 in
theorem orderagrees8 (xs : List (Int × Int)) (vl : Value) (w0 : World) (hl : Src w0.heap vl xs.length 2 (flat enT xs)) (hn : xs.length ≤ 1048576) : Calls Try.prog 8 #[vl] w0 fun e w' => e = .returned (.bool true) ∧ Ext w0 w' := by
  have hE0 : Below w0.heap.size w0 w0 := Below.refl _ _
  have hz0 := hE0.le
  obtain ⟨a, ca, rfl, hca, hca1⟩ := hl.form
  obtain ⟨W, hW⟩ : ∃ W, W = srt byc xs := ⟨_, rfl⟩
  have hWl : W.length = xs.length := by rw [hW, srt_length]
  have hWr : Rise byc W := hW ▸ srt_rise byc_law xs
  refine enter Try.func8 rfl 113 Try.ntmps8 rfl ?_
  refine seqK fun Q1 kn2 kr3 ke4 => ?_
  refine region ?_
  refine st_q (v := .bool false) (x_assign rfl) ?_
  refine st_nil ?_
  refine kn2 _ _ ?_
  refine seqK fun Q5 kn6 kr7 ke8 => ?_
  refine region ?_
  refine st_q (v := .slice a xs.length ca) (x_move rfl) ?_
  refine st_c (t_call [.slice a xs.length ca, .func (.func 20) #[] #[]] T.cf30 rfl rfl) (sort30 20 byc T.cf20 cmp20 byc_law (.func (.func 20) #[] #[]) told20 xs _ _ (hl.below hE0) (by omega)) ?_
  rintro _ w9 ⟨vW, rfl, hx10, hO11⟩
  rw [← hW, ← hWl] at hO11
  refine ⟨_, rfl, ?_⟩
  have hE12 : Below w0.heap.size w0 w9 := hx10.e hE0 (Nat.le_refl _)
  have hz13 := hE12.le
  have hs14 := hx10.size
  have hOw := hO11.weak (lo' := w0.heap.size) (by omega)
  obtain ⟨aW, cW, rfl, hcW, hcW1⟩ := hOw.src.form
  refine st_q (v := .slice aW W.length cW) (x_assign rfl) ?_
  refine st_nil ?_
  refine kn6 _ _ ?_
  refine seqK fun Q15 kn16 kr17 ke18 => ?_
  refine region ?_
  refine st_c (t_call [.func (.func 20) #[] #[]] T.cf23 rfl rfl) (new23 20 (.func (.func 20) #[] #[]) told20 _) ?_
  rintro _ w19 ⟨bh, rfl, hx20, hN, hbn⟩
  refine ⟨_, rfl, ?_⟩
  have hF21 := hOw.ext hx20
  have hE22 : Below w0.heap.size w0 w19 := hx20.e hE12 (Nat.le_refl _)
  have hz23 := hE22.le
  have hs24 := hx20.size
  have hNw := HeapR.weak' (lo' := w0.heap.size) hN (by omega)
  refine st_q (v := .pointer (some ⟨bh, 0, none⟩)) (x_assign rfl) ?_
  refine st_nil ?_
  refine kn16 _ _ ?_
  refine seqK fun Q25 kn26 kr27 ke28 => ?_
  refine region ?_
  refine st_q (v := .slice none 0 0) (x_assign rfl) ?_
  refine st_nil ?_
  refine kn26 _ _ ?_
  refine seqK fun Q29 kn30 kr31 ke32 => ?_
  refine seqK fun Q33 kn34 kr35 ke36 => ?_
  refine region ?_
  refine st_q (v := .int .i64 ((0 : Nat) : Int)) (x_assign rfl) ?_
  refine st_nil ?_
  refine kn34 _ _ ?_
  refine blockK fun Q37 kn38 kr39 kx40 kb41 => ?_
  refine loopK (α := Nat × Value × (List ((Int × Int) × Nat)) × (List S3) × Value) (fun x => [(0, .slice a xs.length ca), (3, .slice aW W.length cW), (4, .pointer (some ⟨bh, 0, none⟩)), (5, x.2.2.2.2), (6, .int .i64 ((x.1 : Nat) : Int))]) (fun x w42 => Below w0.heap.size w0 w42 ∧ x.1 ≤ xs.length ∧ HeapR w42.heap w0.heap.size 57 78 3 (enE enT) bh (.func (.func 20) #[] #[]) x.2.1 x.2.2.1 x.1 ∧ HP (ah byc) x.2.2.1 ∧ Mt x.2.2.1 (xs.take x.1) x.1 ∧ FamE w42.heap w0.heap.size x.2.2.2.1 xs x.1 ∧ Own w42.heap w0.heap.size 29 1 x.2.2.2.2 x.1 (flat enV x.2.2.2.1) ∧ Own w42.heap w0.heap.size 31 2 (.slice aW W.length cW) W.length (flat enT W)) (fun x => xs.length - x.1) (0, .slice none 0 0, [], [], .slice none 0 0) ⟨rfl, rfl, rfl, rfl, rfl, trivial⟩ ?_ ?_
  ·
    refine ⟨hE22, ?_⟩
    try dsimp only
    exact ⟨Nat.zero_le _, hNw, fun i h1 h2 => by simp at h2, Mt.nil, FamE.nil, Own.nil _ _ _ _, hF21⟩
  ·
    rintro τ43 ⟨i, v, es, vs, ve⟩ w44 ⟨hx45, ⟨hi, hH, hhp, hmt, hF, hE, hOw⟩⟩
    try dsimp only at hi hH hhp hmt hF hE hOw
    have hz46 := hx45.le
    intro Q47 kn48 kr49 ke50
    have hel := hmt.len
    rw [List.length_take] at hel
    obtain ⟨aE, cE, rfl, hcE, hcE1⟩ := hE.src.form
    refine seqK fun Q51 kn52 kr53 ke54 => ?_
    refine seqK fun Q55 kn56 kr57 ke58 => ?_
    refine region ?_
    refine st_q (v := .int .i64 ((i : Nat) : Int)) (x_move rfl) ?_
    refine st_q (v := .slice a xs.length ca) (x_move rfl) ?_
    refine st_q (v := .int .i64 ((xs.length : Nat) : Int)) (x_lenSl rfl Try.underlying29 rfl) ?_
    refine st_q (v := .bool (decide (i < xs.length))) (x_lssN rfl rfl) ?_
    refine st_nil ?_
    refine kn56 _ _ ?_
    refine cnd (p := i < xs.length) rfl (fun h59 => ?_) (fun h59 => ?_)
    ·
      refine skip ?_
      refine kn52 _ _ ?_
      refine seqK fun Q60 kn61 kr62 ke63 => ?_
      refine blockK fun Q64 kn65 kr66 kx67 kb68 => ?_
      refine seqK fun Q69 kn70 kr71 ke72 => ?_
      refine region ?_
      refine st_q (v := .pointer (some ⟨bh, 0, none⟩)) (x_move rfl) ?_
      refine st_q (v := .slice a xs.length ca) (x_move rfl) ?_
      refine st_q (v := .int .i64 ((i : Nat) : Int)) (x_move rfl) ?_
      obtain ⟨b73, o74, ha75, hc76⟩ := hl.at (by omega)
      refine st_q (v := .pointer (some ⟨b73, o74 + i * 2, none⟩)) (x_index' T.sl29 rfl ha75 rfl (by omega)) ?_
      refine st_q (v := .agg #[.int .i64 ((el xs i).1), .int .i64 ((el xs i).2)]) (x_loadA [.int .i64 ((el xs i).1), .int .i64 ((el xs i).2)] T.ag31 rfl ((hc76.below hx45).elem enT_len (i := i) (by omega))) ?_
      refine st_c (t_call [.pointer (some ⟨bh, 0, none⟩), .agg #[.int .i64 ((el xs i).1), .int .i64 ((el xs i).2)]] T.cf26 rfl rfl) (push26 w0.heap.size 20 byc T.cf20 cmp20 byc_law (.func (.func 20) #[] #[]) told20 bh i v es (el xs i) _ hH (by omega) (by omega) hhp) ?_
      rintro _ w77 ⟨rfl, v2, es2, hM78, hH2, hP2, hQ2, _⟩
      refine ⟨_, rfl, ?_⟩
      have hF79 := hF.modH hM78 hH
      have hF80 := hOw.mod hM78 (fun k e h => h.elim (fun h => hH.blk.neO hOw (by decide) (h ▸ e)) (fun h => hOw.neT hH.own (by decide) e h))
      have hF81 := hE.mod hM78 (fun k e h => h.elim (fun h => hH.blk.neO hE (by decide) (h ▸ e)) (fun h => hE.neT hH.own (by decide) e h))
      have hE82 : Below w0.heap.size w0 w77 := Below.mod' hx45 hM78 (fun i hi => HeapR.low hH i hi) (Nat.le_refl _)
      have hz83 := hE82.le
      have hs84 := hM78.size
      refine st_nil ?_
      refine kn70 _ _ ?_
      refine region ?_
      refine st_q (v := .slice aE i cE) (x_move rfl) ?_
      refine st_q (v := .slice a xs.length ca) (x_move rfl) ?_
      refine st_q (v := .int .i64 ((i : Nat) : Int)) (x_move rfl) ?_
      refine st_q (v := .pointer (some ⟨b73, o74 + i * 2, none⟩)) (x_index' T.sl29 rfl ha75 rfl (by omega)) ?_
      refine st_q (v := .agg #[.int .i64 ((el xs i).1), .int .i64 ((el xs i).2)]) (x_loadA [.int .i64 ((el xs i).1), .int .i64 ((el xs i).2)] T.ag31 rfl ((hc76.below hE82).elem enT_len (i := i) (by omega))) ?_
      refine st_e (e_buildSlice (cs := [.int .i64 ((el xs i).1), .int .i64 ((el xs i).2)]) (e := 31) (fun _ => by kernel_rfl) ?_)
      intro w85 hA86
      have hx87 := hA86.ext
      have hs88 := hA86.size
      have hB89 : Blk w85.heap w77.heap.size [.int .i64 ((el xs i).1), .int .i64 ((el xs i).2)] 31 := hA86.new
      have hF90 := hF79.ext hx87
      have hF91 := hF80.ext hx87
      have hF92 := hF81.ext hx87
      have hF93 := hH2.ext hx87
      have hE94 : Below w0.heap.size w0 w85 := hx87.e hE82 (Nat.le_refl _)
      have hz95 := hE94.le
      have hs96 := hx87.size
      refine st_e (e_buildSlice (cs := [.slice ((some ⟨w77.heap.size, 0, none⟩)) 1 1]) (e := 29) (fun _ => by kernel_rfl) ?_)
      intro w97 hA98
      have hx99 := hA98.ext
      have hs100 := hA98.size
      have hB101 : Blk w97.heap w85.heap.size [.slice ((some ⟨w77.heap.size, 0, none⟩)) 1 1] 29 := hA98.new
      have hB102 := hB89.ext hx99
      have hF103 := hF90.ext hx99
      have hF104 := hF91.ext hx99
      have hF105 := hF92.ext hx99
      have hF106 := hF93.ext hx99
      have hE107 : Below w0.heap.size w0 w97 := hx99.e hE94 (Nat.le_refl _)
      have hz108 := hE107.le
      have hs109 := hx99.size
      refine st_e (e_appendX T.sl63 rfl rfl hF105 (hB101.src1 (k := 1) (m := 1) rfl (by omega)) (ones (by rfl)) (by omega) (by decide) (by omega) ?_)
      intro v110 w111 hO112 hG113 hN114 hW115
      have hB116 := hB102.grown hG113 (fun e => by first | exact (hB102.neO hF105 (by decide)) e | exact hne e | (have := (hF105.lt e).1; clear e; omega))
      have hF117 := hF103.grownT hG113 hF105
      have hF118 := hF104.grownT hG113 hF105 (by decide)
      have hF119 := hF106.grownT hG113 hF105 (by decide) (by decide)
      have hE120 : Below w0.heap.size w0 w111 := grown_below hG113 hE107 (Nat.le_refl _) (fun b hb => (by have := (hF105.lt hb).1; clear hb; omega))
      have hz121 := hE120.le
      have hs122 := hG113.size
      have hO123 := Own.snoc (enc := enV) (u := ((some ⟨w77.heap.size, 0, none⟩), 1, 1)) hO112
      obtain ⟨a124, c125, rfl, hm126, hm127⟩ := hO123.src.form
      refine st_q (v := .slice a124 ((i + 1)) c125) (x_assign rfl) ?_
      refine st_nil ?_
      refine kn65 _ _ ?_
      refine kn61 _ _ ?_
      refine region ?_
      refine st_q (v := .int .i64 ((i : Nat) : Int)) (x_move rfl) ?_
      refine st_q (v := .int .i64 (((i + 1) : Nat) : Int)) (x_addN rfl rfl (by omega)) ?_
      refine st_q (v := .int .i64 (((i + 1) : Nat) : Int)) (x_assign rfl) ?_
      refine st_nil ?_
      refine kn48 _ ((i + 1), v2, es2, (vs ++ [((some ⟨w77.heap.size, 0, none⟩), 1, 1)]), .slice a124 ((i + 1)) c125) _ ⟨rfl, rfl, rfl, rfl, rfl, trivial⟩ ⟨hE120, ?_⟩ ?_
      ·
        try dsimp only
        exact ⟨by omega, hF119, hP2, by rw [take_succ_el (by omega)]; exact hmt.push hQ2, hF117.snoc rfl (Blk.own1 hB116 (by omega)), hO123, hF118⟩
      ·
        (try dsimp only); omega
    ·
      refine exit ?_
      refine ke54 _ _ _ ?_
      refine ke50 _ _ _ ?_
      refine kb41 _ _ ?_
      refine kn30 _ _ ?_
      refine seqK fun Q128 kn129 kr130 ke131 => ?_
      refine seqK fun Q132 kn133 kr134 ke135 => ?_
      refine region ?_
      refine st_q (v := .pointer (some ⟨bh, 0, none⟩)) (x_move rfl) ?_
      refine st_c (t_call [.pointer (some ⟨bh, 0, none⟩)] T.cf25 rfl rfl) (len25 w0.heap.size bh i _ v es _ hH) ?_
      rintro _ w136 ⟨rfl, hx137⟩
      refine ⟨_, rfl, ?_⟩
      have hF138 := hH.ext hx137
      have hF139 := hF.ext hx137
      have hF140 := hOw.ext hx137
      have hF141 := hE.ext hx137
      have hE142 : Below w0.heap.size w0 w136 := hx137.e hx45 (Nat.le_refl _)
      have hz143 := hE142.le
      have hs144 := hx137.size
      refine st_q (v := .slice a xs.length ca) (x_move rfl) ?_
      refine st_q (v := .int .i64 ((xs.length : Nat) : Int)) (x_lenSl rfl Try.underlying29 rfl) ?_
      refine st_q (v := .bool (decide (es.length ≠ xs.length))) (x_neqN rfl rfl) ?_
      refine st_if (p := es.length ≠ xs.length) (x_move rfl) (fun h145 => ?_) (fun h145 => ?_)
      ·
        exact absurd h145 (by omega)
      ·
        clear h145
        refine st_gq 5 40 rfl rfl (by decide) ?_
        refine st_q (v := .slice aW W.length cW) (x_move rfl) ?_
        refine st_gq 5 40 rfl rfl (by decide) ?_
        refine st_q (v := .int .i64 ((W.length : Nat) : Int)) (x_lenSl rfl Try.underlying29 rfl) ?_
        refine st_gq 5 40 rfl rfl (by decide) ?_
        refine st_q (v := .slice a xs.length ca) (x_move rfl) ?_
        refine st_gq 5 40 rfl rfl (by decide) ?_
        refine st_q (v := .int .i64 ((xs.length : Nat) : Int)) (x_lenSl rfl Try.underlying29 rfl) ?_
        refine st_gq 5 40 rfl rfl (by decide) ?_
        refine st_q (v := .bool (decide (W.length ≠ xs.length))) (x_neqN rfl rfl) ?_
        refine st_q (v := .bool (decide (W.length ≠ xs.length))) (x_pickF rfl rfl) ?_
        refine st_if (p := W.length ≠ xs.length) (x_move rfl) (fun h146 => ?_) (fun h146 => ?_)
        ·
          exact absurd h146 (by omega)
        ·
          clear h146
          refine st_gq 12 47 rfl rfl (by decide) ?_
          refine st_q (v := .slice aE i cE) (x_move rfl) ?_
          refine st_gq 12 47 rfl rfl (by decide) ?_
          have hix : i = xs.length := by omega
          have hvs := hF139.1
          have hSs : ∀ k, k < (ones1 xs).length → (el vs k).2.1 = (el (ones1 xs) k).length ∧ Src w136.heap (sv (el vs k)) (el (ones1 xs) k).length 2 (flat enT (el (ones1 xs) k)) := fun k hk => by
            rw [ones1_len] at hk
            rw [el_ones1 hk]
            obtain ⟨h1, h2⟩ := hF139.2 k (by omega)
            exact ⟨h1, h2.src⟩
          refine st_c (t_call [.func (.func 20) #[] #[], .slice aE i cE] T.cf37 rfl rfl) (merge37 (ones1 xs) vs _ _ (by rw [hvs]; exact hF141.src) (by rw [ones1_len]; omega) hSs (ones1_up xs) (by rw [ones1_len]; omega) (by rw [ones1_flat]; omega)) ?_
          rintro _ w147 ⟨v149, rfl, hx148, hO150⟩
          rw [ones1_flat, ← hW] at hO150
          refine ⟨_, rfl, ?_⟩
          have hF151 := hF138.ext hx148
          have hF152 := hF139.ext hx148
          have hF153 := hF140.ext hx148
          have hF154 := hF141.ext hx148
          have hE155 : Below w0.heap.size w0 w147 := hx148.e hE142 (Nat.le_refl _)
          have hz156 := hE155.le
          have hs157 := hx148.size
          have hO158 := hO150.weak (lo' := w0.heap.size) (by omega)
          obtain ⟨a159, c160, rfl, hm161, hm162⟩ := hO158.src.form
          refine st_gq 12 47 rfl rfl (by decide) ?_
          refine st_q (v := .slice aW W.length cW) (x_move rfl) ?_
          refine st_gq 12 47 rfl rfl (by decide) ?_
          refine st_c (t_call [.slice a159 W.length c160, .slice aW W.length cW] T.cf34 rfl rfl) (same W W _ _ _ hO158.src hF153.src) ?_
          rintro _ w163 ⟨rfl, hx164⟩
          refine ⟨_, rfl, ?_⟩
          have hF165 := hF151.ext hx164
          have hF166 := hF152.ext hx164
          have hF167 := hF153.ext hx164
          have hF168 := hF154.ext hx164
          have hF169 := hO158.ext hx164
          have hE170 : Below w0.heap.size w0 w163 := hx164.e hE155 (Nat.le_refl _)
          have hz171 := hE170.le
          have hs172 := hx164.size
          refine st_gq 12 47 rfl rfl (by decide) ?_
          refine st_q (v := .bool (decide (¬ (W = W)))) (x_notP rfl) ?_
          refine st_q (v := .bool (decide (¬ (W = W)))) (x_pickF rfl rfl) ?_
          refine st_nil ?_
          refine kn133 _ _ ?_
          refine cnd (p := ¬ (W = W)) rfl (fun h173 => ?_) (fun h173 => ?_)
          ·
            exact absurd h173 (not_not_intro rfl)
          ·
            refine skip ?_
            refine kn129 _ _ ?_
            refine seqK fun Q174 kn175 kr176 ke177 => ?_
            refine seqK fun Q178 kn179 kr180 ke181 => ?_
            refine region ?_
            refine st_q (v := .int .i64 ((0 : Nat) : Int)) (x_assign rfl) ?_
            refine st_nil ?_
            refine kn179 _ _ ?_
            refine blockK fun Q182 kn183 kr184 kx185 kb186 => ?_
            obtain rfl : i = xs.length := by omega
            rw [List.take_length] at hmt
            refine loopK (α := Nat × Value × (List ((Int × Int) × Nat)) × Ts) (fun x => [(3, .slice aW W.length cW), (4, .pointer (some ⟨bh, 0, none⟩)), (7, .int .i64 ((x.1 : Nat) : Int))]) (fun x w187 => Below w0.heap.size w0 w187 ∧ x.1 ≤ W.length ∧ HeapR w187.heap w0.heap.size 57 78 3 (enE enT) bh (.func (.func 20) #[] #[]) x.2.1 x.2.2.1 xs.length ∧ HP (ah byc) x.2.2.1 ∧ Mt x.2.2.1 x.2.2.2 xs.length ∧ srt byc x.2.2.2 = W.drop x.1 ∧ x.2.2.2.length + x.1 = W.length ∧ Own w187.heap w0.heap.size 31 2 (.slice aW W.length cW) W.length (flat enT W)) (fun x => W.length - x.1) (0, v, es, xs) ⟨rfl, rfl, rfl, trivial⟩ ?_ ?_
            ·
              refine ⟨hE170, ?_⟩
              try dsimp only
              exact ⟨Nat.zero_le _, hF165, hhp, hmt, by rw [hW]; rfl, by omega, hF167⟩
            ·
              rintro τ188 ⟨i, v, es, L⟩ w189 ⟨hx190, ⟨hi, hH, hhp, hmt, hD, hLl, hOw⟩⟩
              try dsimp only at hi hH hhp hmt hD hLl hOw
              have hz191 := hx190.le
              intro Q192 kn193 kr194 ke195
              have hel := hmt.len
              refine seqK fun Q196 kn197 kr198 ke199 => ?_
              refine seqK fun Q200 kn201 kr202 ke203 => ?_
              refine region ?_
              refine st_q (v := .int .i64 ((i : Nat) : Int)) (x_move rfl) ?_
              refine st_q (v := .slice aW W.length cW) (x_move rfl) ?_
              refine st_q (v := .int .i64 ((W.length : Nat) : Int)) (x_lenSl rfl Try.underlying29 rfl) ?_
              refine st_q (v := .bool (decide (i < W.length))) (x_lssN rfl rfl) ?_
              refine st_nil ?_
              refine kn201 _ _ ?_
              refine cnd (p := i < W.length) rfl (fun h204 => ?_) (fun h204 => ?_)
              ·
                refine skip ?_
                refine kn197 _ _ ?_
                refine seqK fun Q205 kn206 kr207 ke208 => ?_
                refine blockK fun Q209 kn210 kr211 kx212 kb213 => ?_
                refine seqK fun Q214 kn215 kr216 ke217 => ?_
                refine region ?_
                refine st_q (v := .pointer (some ⟨bh, 0, none⟩)) (x_move rfl) ?_
                obtain ⟨f, hFI⟩ := FI.ex L L.length (Nat.le_refl _)
                have hroot := hmt.root hhp (by omega) hFI
                have hsl := FI.srt hFI (by omega)
                rw [← hroot] at hsl
                obtain ⟨hWi, hDn⟩ := next_el hD (by omega) hsl
                refine st_c (t_call [.pointer (some ⟨bh, 0, none⟩)] T.cf29 rfl rfl) (peek29_1 w0.heap.size bh xs.length _ v es _ hH (by omega)) ?_
                rintro _ w218 ⟨rfl, hx219⟩
                refine ⟨_, rfl, ?_⟩
                have hF220 := hH.ext hx219
                have hF221 := hOw.ext hx219
                have hE222 : Below w0.heap.size w0 w218 := hx219.e hx190 (Nat.le_refl _)
                have hz223 := hE222.le
                have hs224 := hx219.size
                refine st_q (v := .tuple #[.agg #[.int .i64 ((el es 0).1.1), .int .i64 ((el es 0).1.2)], .bool true]) (x_move rfl) ?_
                refine st_q (v := .agg #[.int .i64 ((el es 0).1.1), .int .i64 ((el es 0).1.2)]) (x_extract rfl rfl) ?_
                refine st_q (v := .bool true) (x_extract rfl rfl) ?_
                refine st_e (e_alloc T.zv31 ?_)
                intro w225 hA226
                have hx227 := hA226.ext
                have hs228 := hA226.size
                have hB229 : Blk w225.heap w218.heap.size [.int .i64 ((0 : Nat) : Int), .int .i64 ((0 : Nat) : Int)] 31 := hA226.new
                have hF230 := hF220.ext hx227
                have hF231 := hF221.ext hx227
                have hE232 : Below w0.heap.size w0 w225 := hx227.e hE222 (Nat.le_refl _)
                have hz233 := hE232.le
                have hs234 := hx227.size
                refine st_s (e_st (v := .agg #[.int .i64 ((el es 0).1.1), .int .i64 ((el es 0).1.2)]) T.sz31 rfl rfl hB229 (by simp [Value.cells]) (by rfl) ?_)
                intro w235 hP236
                have hB237 : Blk w235.heap w218.heap.size [.int .i64 ((el es 0).1.1), .int .i64 ((el es 0).1.2)] 31 := hP236.new
                have hs238 := hP236.size
                have hF239 := HeapR.mod hF230 ((Mod.refl (fun k => k = w218.heap.size) _).pt hP236 (.inl rfl)) (fun h => hB229.neB hF230.blk (by decide) h.symm) (fun k e h => hB229.neO hF230.own (by decide) (h ▸ e))
                have hF240 := hF231.pt hP236 (by first | exact hB229.neO hF231 (by decide) | (intro e; have := (hOw.lt e).2; omega))
                have hE241 : Below w0.heap.size w0 w235 := hP236.below hE232 (by omega)
                have hz242 := hE241.le
                refine st_q (v := .bool true) (x_assign rfl) ?_
                refine st_nil ?_
                refine kn215 _ _ ?_
                refine seqK fun Q243 kn244 kr245 ke246 => ?_
                refine region ?_
                refine st_q (v := .pointer (some ⟨bh, 0, none⟩)) (x_move rfl) ?_
                refine st_c (t_call [.pointer (some ⟨bh, 0, none⟩)] T.cf28 rfl rfl) (pop28 w0.heap.size 20 byc T.cf20 cmp20 byc_law (.func (.func 20) #[] #[]) told20 bh xs.length v es _ hF239 (by omega) (by omega) hhp) ?_
                rintro _ w247 ⟨rfl, v1, es1, hM248, hH1, hP1, hQ1, _⟩
                refine ⟨_, rfl, ?_⟩
                have hB249 := hB237.mod hM248 (fun h => h.elim (hB237.neB hF239.blk (by decide)) (fun h => hB237.neO hF239.own (by decide) h))
                have hF250 := hF240.mod hM248 (fun k e h => h.elim (fun h => hF239.blk.neO hF240 (by decide) (h ▸ e)) (fun h => hF240.neT hF239.own (by decide) e h))
                have hE251 : Below w0.heap.size w0 w247 := Below.mod' hE241 hM248 (fun i hi => HeapR.low hF239 i hi) (Nat.le_refl _)
                have hz252 := hE251.le
                have hs253 := hM248.size
                refine st_q (v := .tuple #[.agg #[.int .i64 ((el es 0).1.1), .int .i64 ((el es 0).1.2)], .bool true]) (x_move rfl) ?_
                refine st_q (v := .agg #[.int .i64 ((el es 0).1.1), .int .i64 ((el es 0).1.2)]) (x_extract rfl rfl) ?_
                refine st_q (v := .bool true) (x_extract rfl rfl) ?_
                refine st_e (e_alloc T.zv31 ?_)
                intro w254 hA255
                have hx256 := hA255.ext
                have hs257 := hA255.size
                have hB258 : Blk w254.heap w247.heap.size [.int .i64 ((0 : Nat) : Int), .int .i64 ((0 : Nat) : Int)] 31 := hA255.new
                have hB259 := hB249.ext hx256
                have hF260 := hF250.ext hx256
                have hF261 := hH1.ext hx256
                have hE262 : Below w0.heap.size w0 w254 := hx256.e hE251 (Nat.le_refl _)
                have hz263 := hE262.le
                have hs264 := hx256.size
                refine st_s (e_st (v := .agg #[.int .i64 ((el es 0).1.1), .int .i64 ((el es 0).1.2)]) T.sz31 rfl rfl hB258 (by simp [Value.cells]) (by rfl) ?_)
                intro w265 hP266
                have hB267 : Blk w265.heap w247.heap.size [.int .i64 ((el es 0).1.1), .int .i64 ((el es 0).1.2)] 31 := hP266.new
                have hs268 := hP266.size
                have hB269 := hB259.pt hP266 (by omega)
                have hF270 := hF260.pt hP266 (by first | exact hB258.neO hF260 (by decide) | (intro e; have := (hOw.lt e).2; omega))
                have hF271 := HeapR.mod hF261 ((Mod.refl (fun k => k = w247.heap.size) _).pt hP266 (.inl rfl)) (fun h => hB258.neB hF261.blk (by decide) h.symm) (fun k e h => hB258.neO hF261.own (by decide) (h ▸ e))
                have hE272 : Below w0.heap.size w0 w265 := hP266.below hE262 (by omega)
                have hz273 := hE272.le
                refine st_q (v := .bool true) (x_assign rfl) ?_
                refine st_nil ?_
                refine kn244 _ _ ?_
                refine seqK fun Q274 kn275 kr276 ke277 => ?_
                refine regionD1 [7, 11, 15, 16, 27, 33] [0, 1, 2, 3, 4, 5, 6, 7, 8, 9, 10, 11, 12, 13, 14, 15, 16, 17, 18, 19, 20, 21, 22, 23, 24, 25, 26, 27, 28, 29, 30, 31, 32, 33, 34, 35, 36] (.one 0 (.one 1 (.one 2 (.one 3 (.one 4 (.one 5 (.one 6 (.one 7 (.one 8 (.one 9 (.one 10 (.one 11 (.one 12 (.one 13 (.one 14 (.one 15 (.one 16 (.one 17 (.one 18 (.one 19 (.one 20 (.one 21 (.one 22 (.one 23 (.one 24 (.one 25 (.one 26 (.one 27 (.one 28 (.one 29 (.one 30 (.one 31 (.one 32 (.one 33 (.one 34 (.one 35 (.one 36 .done))))))))))))))))))))))))))))))))))))) (by kernel_rfl) (by kernel_rfl) ?_
                intro w278 hx279 hs280
                have hB281 := hB269.ext hx279
                have hB282 := hB267.ext hx279
                have hF283 := hF270.ext hx279
                have hF284 := hF271.ext hx279
                have hE285 : Below w0.heap.size w0 w278 := hx279.e hE272 (Nat.le_refl _)
                have hz286 := hE285.le
                have hs287 := hx279.size
                have hS288 : Ext w278 w278 := Below.refl _ _
                refine d_q (v := .bool true) rfl rfl (fun _ => x_move rfl) ?_
                refine d_q (v := .bool false) rfl rfl (fun _ => x_notB (b := true) rfl) ?_
                refine d_q (v := .bool false) rfl rfl (fun _ => x_move rfl) ?_
                refine d_gq (v := .bool true) (j := 2) (t := 72) rfl rfl rfl rfl (by decide) (fun _ => x_move rfl) ?_
                refine d_gq (v := .bool false) (j := 2) (t := 72) rfl rfl rfl rfl (by decide) (fun _ => x_notB (b := true) rfl) ?_
                refine d_q (v := .bool false) rfl rfl (fun _ => x_pickF rfl rfl) ?_
                refine d_q (v := .bool false) rfl rfl (fun _ => x_move rfl) ?_
                refine d_gl (v := .agg #[.int .i64 ((el es 0).1.1), .int .i64 ((el es 0).1.2)]) (j := 6) (t := 76) rfl rfl rfl rfl rfl (by decide) (fun v290 hw289 => x_loadA [.int .i64 ((el es 0).1.1), .int .i64 ((el es 0).1.2)] T.ag31 rfl ((hB281.cells 0 [.int .i64 ((el es 0).1.1), .int .i64 ((el es 0).1.2)] (cells_at rfl)).ext hw289)) ?_
                refine d_gq (v := .slice aW W.length cW) (j := 6) (t := 76) rfl rfl rfl rfl (by decide) (fun _ => x_move rfl) ?_
                refine d_gq (v := .int .i64 ((i : Nat) : Int)) (j := 6) (t := 76) rfl rfl rfl rfl (by decide) (fun _ => x_move rfl) ?_
                obtain ⟨b291, o292, ha293, hc294⟩ := hF283.src.at (by omega)
                refine d_gq (v := .pointer (some ⟨b291, o292 + i * 2, none⟩)) (j := 6) (t := 76) rfl rfl rfl rfl (by decide) (fun _ => x_index' T.sl29 rfl ha293 rfl (by omega)) ?_
                refine d_gl (v := .agg #[.int .i64 ((el W i).1), .int .i64 ((el W i).2)]) (j := 6) (t := 76) rfl rfl rfl rfl rfl (by decide) (fun v296 hw295 => x_loadA [.int .i64 ((el W i).1), .int .i64 ((el W i).2)] T.ag31 rfl ((hc294.elem enT_len (i := i) (by omega)).ext hw295)) ?_
                refine d_gq (v := .bool (decide (¬ ((el es 0).1 = (el W i))))) (j := 6) (t := 76) rfl rfl rfl rfl (by decide) (fun _ => x_neq2 T.eq2_31 rfl rfl) ?_
                refine d_q (v := .bool (decide (¬ ((el es 0).1 = (el W i))))) rfl rfl (fun _ => x_pickF rfl rfl) ?_
                refine d_if rfl rfl (p := ¬ ((el es 0).1 = (el W i))) (fun _ => x_move rfl) (fun h297 => ?_) (fun h297 => ?_)
                ·
                  exact absurd h297 (not_not_intro hWi)
                ·
                  clear h297
                  refine d_gl (v := .agg #[.int .i64 ((el es 0).1.1), .int .i64 ((el es 0).1.2)]) (j := 14) (t := 84) rfl rfl rfl rfl rfl (by decide) (fun v299 hw298 => x_loadA [.int .i64 ((el es 0).1.1), .int .i64 ((el es 0).1.2)] T.ag31 rfl ((hB282.cells 0 [.int .i64 ((el es 0).1.1), .int .i64 ((el es 0).1.2)] (cells_at rfl)).ext hw298)) ?_
                  refine d_gl (v := .agg #[.int .i64 ((el es 0).1.1), .int .i64 ((el es 0).1.2)]) (j := 14) (t := 84) rfl rfl rfl rfl rfl (by decide) (fun v301 hw300 => x_loadA [.int .i64 ((el es 0).1.1), .int .i64 ((el es 0).1.2)] T.ag31 rfl ((hB281.cells 0 [.int .i64 ((el es 0).1.1), .int .i64 ((el es 0).1.2)] (cells_at rfl)).ext hw300)) ?_
                  refine d_gq (v := .bool (decide (¬ ((el es 0).1 = (el es 0).1)))) (j := 14) (t := 84) rfl rfl rfl rfl (by decide) (fun _ => x_neq2 T.eq2_31 rfl rfl) ?_
                  refine d_q (v := .bool (decide (¬ ((el es 0).1 = (el es 0).1)))) rfl rfl (fun _ => x_pickF rfl rfl) ?_
                  refine d_if rfl rfl (p := ¬ ((el es 0).1 = (el es 0).1)) (fun _ => x_move rfl) (fun h302 => ?_) (fun h302 => ?_)
                  ·
                    exact absurd h302 (not_not_intro rfl)
                  ·
                    clear h302
                    refine d_gq (v := .int .i64 ((i : Nat) : Int)) (j := 19) (t := 89) rfl rfl rfl rfl (by decide) (fun _ => x_move rfl) ?_
                    refine d_gq (v := .bool (decide (0 < i))) (j := 19) (t := 89) rfl rfl rfl rfl (by decide) (fun _ => x_gtrN rfl rfl) ?_
                    refine d_gif (j := 19) (t := 89) rfl rfl rfl rfl (by decide) (p := 0 < i) (fun _ => x_move rfl) (fun h303 => ?_) (fun h303 => ?_)
                    ·
                      refine d_gq (v := .slice aW W.length cW) (j := 22) (t := 92) rfl rfl rfl rfl (by decide) (fun _ => x_move rfl) ?_
                      refine d_gq (v := .int .i64 ((i : Nat) : Int)) (j := 22) (t := 92) rfl rfl rfl rfl (by decide) (fun _ => x_move rfl) ?_
                      obtain ⟨b304, o305, ha306, hc307⟩ := hF283.src.at (by omega)
                      refine d_gq (v := .pointer (some ⟨b304, o305 + i * 2, none⟩)) (j := 22) (t := 92) rfl rfl rfl rfl (by decide) (fun _ => x_index' T.sl29 rfl ha306 rfl (by omega)) ?_
                      refine d_gq (v := .pointer (some ⟨b304, o305 + i * 2, none⟩)) (j := 22) (t := 92) rfl rfl rfl rfl (by decide) (fun _ => x_field (o := o305 + i * 2) T.fa31_0 rfl) ?_
                      refine d_gl (v := .int .i64 ((el W i).1)) (j := 22) (t := 92) rfl rfl rfl rfl rfl (by decide) (fun v309 hw308 => x_load1 T.na3 rfl (((hc307.elem enT_len (i := i) (by omega)).fld 0 rfl).ext hw308)) ?_
                      refine d_gq (v := .slice aW W.length cW) (j := 22) (t := 92) rfl rfl rfl rfl (by decide) (fun _ => x_move rfl) ?_
                      refine d_gq (v := .int .i64 ((i : Nat) : Int)) (j := 22) (t := 92) rfl rfl rfl rfl (by decide) (fun _ => x_move rfl) ?_
                      refine d_gq (v := .int .i64 (((i - 1) : Nat) : Int)) (j := 22) (t := 92) rfl rfl rfl rfl (by decide) (fun _ => x_subN rfl rfl (by omega) (by omega)) ?_
                      obtain ⟨b310, o311, ha312, hc313⟩ := hF283.src.at (by omega)
                      refine d_gq (v := .pointer (some ⟨b310, o311 + ((i - 1)) * 2, none⟩)) (j := 22) (t := 92) rfl rfl rfl rfl (by decide) (fun _ => x_index' T.sl29 rfl ha312 rfl (by omega)) ?_
                      refine d_gq (v := .pointer (some ⟨b310, o311 + ((i - 1)) * 2, none⟩)) (j := 22) (t := 92) rfl rfl rfl rfl (by decide) (fun _ => x_field (o := o311 + ((i - 1)) * 2) T.fa31_0 rfl) ?_
                      refine d_gl (v := .int .i64 ((el W ((i - 1))).1)) (j := 22) (t := 92) rfl rfl rfl rfl rfl (by decide) (fun v315 hw314 => x_load1 T.na3 rfl (((hc313.elem enT_len (i := (i - 1)) (by omega)).fld 0 rfl).ext hw314)) ?_
                      refine d_gq (v := .bool (decide (((el W i).1) < ((el W ((i - 1))).1)))) (j := 22) (t := 92) rfl rfl rfl rfl (by decide) (fun _ => x_lss rfl rfl) ?_
                      refine d_gq (v := .bool (decide (((el W i).1) < ((el W ((i - 1))).1)))) (j := 19) (t := 89) rfl rfl rfl rfl (by decide) (fun _ => x_pickT rfl rfl) ?_
                      refine d_q (v := .bool (decide (((el W i).1) < ((el W ((i - 1))).1)))) rfl rfl (fun _ => x_pickF rfl rfl) ?_
                      refine d_done ?_
                      refine kn275 _ _ ?_
                      refine cnd (p := ((el W i).1) < ((el W ((i - 1))).1)) rfl (fun h316 => ?_) (fun h316 => ?_)
                      ·
                        exact absurd h316 (fun h => by have := byc_le.1 (rise_el hWr (i := i - 1) (j := i) (by omega) (by omega)); omega)
                      ·
                        refine skip ?_
                        refine kn210 _ _ ?_
                        refine kn206 _ _ ?_
                        refine region ?_
                        refine st_q (v := .int .i64 ((i : Nat) : Int)) (x_move rfl) ?_
                        refine st_q (v := .int .i64 (((i + 1) : Nat) : Int)) (x_addN rfl rfl (by omega)) ?_
                        refine st_q (v := .int .i64 (((i + 1) : Nat) : Int)) (x_assign rfl) ?_
                        refine st_nil ?_
                        refine kn193 _ ((i + 1), v1, es1, (L.eraseIdx f.toNat)) _ ⟨rfl, rfl, rfl, trivial⟩ ⟨hE285, ?_⟩ ?_
                        ·
                          try dsimp only
                          have hle : (L.eraseIdx f.toNat).length = L.length - 1 := List.length_eraseIdx_of_lt (hFI.2 (by omega)).2.1
                          exact ⟨by omega, hF284, hP1, hmt.pop hhp (by omega) hFI hQ1, hDn, by omega, hF283⟩
                        ·
                          (try dsimp only); omega
                    ·
                      refine d_gn (j := 22) (t := 92) rfl rfl rfl rfl (by decide) rfl ?_
                      refine d_gn (j := 22) (t := 92) rfl rfl rfl rfl (by decide) rfl ?_
                      refine d_gn (j := 22) (t := 92) rfl rfl rfl rfl (by decide) rfl ?_
                      refine d_gn (j := 22) (t := 92) rfl rfl rfl rfl (by decide) rfl ?_
                      refine d_gn (j := 22) (t := 92) rfl rfl rfl rfl (by decide) rfl ?_
                      refine d_gn (j := 22) (t := 92) rfl rfl rfl rfl (by decide) rfl ?_
                      refine d_gn (j := 22) (t := 92) rfl rfl rfl rfl (by decide) rfl ?_
                      refine d_gn (j := 22) (t := 92) rfl rfl rfl rfl (by decide) rfl ?_
                      refine d_gn (j := 22) (t := 92) rfl rfl rfl rfl (by decide) rfl ?_
                      refine d_gn (j := 22) (t := 92) rfl rfl rfl rfl (by decide) rfl ?_
                      refine d_gn (j := 22) (t := 92) rfl rfl rfl rfl (by decide) rfl ?_
                      refine d_gn (j := 22) (t := 92) rfl rfl rfl rfl (by decide) rfl ?_
                      refine d_gq (v := .bool false) (j := 19) (t := 89) rfl rfl rfl rfl (by decide) (fun _ => x_pickF rfl rfl) ?_
                      refine d_q (v := .bool false) rfl rfl (fun _ => x_pickF rfl rfl) ?_
                      refine d_done ?_
                      refine kn275 _ _ ?_
                      refine cndF rfl ?_
                      refine skip ?_
                      refine kn210 _ _ ?_
                      refine kn206 _ _ ?_
                      refine region ?_
                      refine st_q (v := .int .i64 ((i : Nat) : Int)) (x_move rfl) ?_
                      refine st_q (v := .int .i64 (((i + 1) : Nat) : Int)) (x_addN rfl rfl (by omega)) ?_
                      refine st_q (v := .int .i64 (((i + 1) : Nat) : Int)) (x_assign rfl) ?_
                      refine st_nil ?_
                      refine kn193 _ ((i + 1), v1, es1, (L.eraseIdx f.toNat)) _ ⟨rfl, rfl, rfl, trivial⟩ ⟨hE285, ?_⟩ ?_
                      ·
                        try dsimp only
                        have hle : (L.eraseIdx f.toNat).length = L.length - 1 := List.length_eraseIdx_of_lt (hFI.2 (by omega)).2.1
                        exact ⟨by omega, hF284, hP1, hmt.pop hhp (by omega) hFI hQ1, hDn, by omega, hF283⟩
                      ·
                        (try dsimp only); omega
              ·
                refine exit ?_
                refine ke199 _ _ _ ?_
                refine ke195 _ _ _ ?_
                refine kb186 _ _ ?_
                refine kn175 _ _ ?_
                refine seqK fun Q317 kn318 kr319 ke320 => ?_
                refine region ?_
                refine st_q (v := .pointer (some ⟨bh, 0, none⟩)) (x_move rfl) ?_
                refine st_c (t_call [.pointer (some ⟨bh, 0, none⟩)] T.cf25 rfl rfl) (len25 w0.heap.size bh xs.length _ v es _ hH) ?_
                rintro _ w321 ⟨rfl, hx322⟩
                refine ⟨_, rfl, ?_⟩
                have hF323 := hH.ext hx322
                have hF324 := hOw.ext hx322
                have hE325 : Below w0.heap.size w0 w321 := hx322.e hx190 (Nat.le_refl _)
                have hz326 := hE325.le
                have hs327 := hx322.size
                refine st_q (v := .bool (decide (es.length = 0))) (x_eqlN rfl rfl) ?_
                refine st_if (p := es.length = 0) (x_move rfl) (fun h328 => ?_) (fun h328 => ?_)
                ·
                  clear h328
                  refine st_gq 3 110 rfl rfl (by decide) ?_
                  refine st_c (t_call [] T.cf16 rfl rfl) (works16 _) ?_
                  rintro _ w329 ⟨rfl, hx330⟩
                  refine ⟨_, rfl, ?_⟩
                  have hF331 := hF323.ext hx330
                  have hF332 := hF324.ext hx330
                  have hE333 : Below w0.heap.size w0 w329 := hx330.e hE325 (Nat.le_refl _)
                  have hz334 := hE333.le
                  have hs335 := hx330.size
                  refine st_q (v := .bool true) (x_pickT rfl rfl) ?_
                  refine st_q (v := .bool true) (x_assign rfl) ?_
                  refine st_nil ?_
                  refine kn318 _ _ ?_
                  refine ret ?_
                  refine leave1 (P := Try.prog) (fn := Try.f8) (t := 2) (v := .bool true) rfl rfl ?_
                  exact ⟨rfl, hE333⟩
                ·
                  exact absurd h328 (by omega)

end Go.Proofs.Ytgfolockecjlnaa
