import Derived.Test.YtknfjgbipfpnjaaG20
import Derived.Test.YtknfjgbipfpnjaaGTu
namespace Go.Proofs.Ytknfjgbipfpnjaa
open Go.RowKit Go.Eng Go.OrdPure
open Go.Knot Go.HeapPure


set_option maxHeartbeats 4000000 in
theorem turns7 (xs : List ByteArray) (es : List Edge) (one two : ByteArray) (va vb : Value) (w0 : World) (ha : Src w0.heap va xs.length 1 (flat enS xs)) (hb : Src w0.heap vb es.length 3 (flat enE es)) (hfx : FitS xs) (hfe : FitE es) (h1s : one.size ≤ maxLen) (h2s : two.size ≤ maxLen) (hn1 : xs.length + 4 * es.length + 2 ≤ 1048576) : Calls Try.prog 7 #[va, vb, .string one, .string two] w0 fun e w' => e = .returned (.bool true) ∧ Below w0.heap.size w0 w' := by
  have hE0 : Below w0.heap.size w0 w0 := Below.refl _ _
  have hz0 := hE0.le
  obtain ⟨a, ca, rfl, hca, hca1⟩ := ha.form
  obtain ⟨b, cb, rfl, hcb, hcb1⟩ := hb.form
  have hn : xs.length + 2 * es.length ≤ 2097152 := by omega
  refine enter Try.func7 rfl 164 Try.ntmps7 rfl ?_
  refine seqK fun Q1 kn2 kr3 ke4 => ?_
  refine region ?_
  refine st_q (v := .bool false) (x_assign rfl) ?_
  refine st_nil ?_
  refine kn2 _ _ ?_
  refine seqK fun Q5 kn6 kr7 ke8 => ?_
  refine seqK fun Q9 kn10 kr11 ke12 => ?_
  refine region ?_
  refine st_c (t_call [] T.cf15 rfl rfl) (known15 _) ?_
  rintro _ w13 ⟨rfl, hx14⟩
  refine ⟨_, rfl, ?_⟩
  have hE15 : Below w0.heap.size w0 w13 := hx14.e hE0 (Nat.le_refl _)
  have hz16 := hE15.le
  have hs17 := hx14.size
  refine st_q (v := .bool false) (x_notB (b := true) rfl) ?_
  refine st_nil ?_
  refine kn10 _ _ ?_
  refine cndF rfl ?_
  refine skip ?_
  refine kn6 _ _ ?_
  refine seqK fun Q18 kn19 kr20 ke21 => ?_
  refine region ?_
  refine st_q (v := .slice none 0 0) (x_assign rfl) ?_
  refine st_nil ?_
  refine kn19 _ _ ?_
  refine seqK fun Q22 kn23 kr24 ke25 => ?_
  refine seqK fun Q26 kn27 kr28 ke29 => ?_
  refine region ?_
  refine st_q (v := .slice a xs.length ca) (x_move rfl) ?_
  refine st_q (v := .int .i64 ((xs.length : Nat) : Int)) (x_lenSl rfl Try.underlying22 rfl) ?_
  refine st_q (v := .int .i64 ((((xs.length : Nat) : Int) - 1))) (x_sub rfl rfl ⟨by omega, by omega⟩) ?_
  refine st_q (v := .int .i64 ((((xs.length : Nat) : Int) - 1))) (x_assign rfl) ?_
  refine st_nil ?_
  refine kn27 _ _ ?_
  refine blockK fun Q30 kn31 kr32 kx33 kb34 => ?_
  refine loopK (α := Nat × Int × Value) (fun x => [(0, .slice a xs.length ca), (1, .slice b es.length cb), (2, .string one), (3, .string two), (9, x.2.2), (10, .int .i64 x.2.1)]) (fun x w35 => Below w0.heap.size w0 w35 ∧ x.1 ≤ xs.length ∧ x.2.1 = ((x.1 : Nat) : Int) - 1 ∧ Own w35.heap w0.heap.size 9 1 x.2.2 (dupR xs x.1).length (flat enS (dupR xs x.1))) (fun x => x.1) (xs.length, (((xs.length : Nat) : Int) - 1), .slice none 0 0) ⟨rfl, rfl, rfl, rfl, rfl, rfl, trivial⟩ ?_ ?_
  ·
    refine ⟨hE15, ?_⟩
    try dsimp only
    refine ⟨Nat.le_refl _, rfl, ?_⟩
    rw [dupR_end]
    exact Own.nil _ _ _ _
  ·
    rintro τ36 ⟨k1, u1, v1⟩ w37 ⟨hx38, ⟨hk1, hu1, hO1⟩⟩
    try dsimp only at hk1 hu1 hO1
    have hz39 := hx38.le
    intro Q40 kn41 kr42 ke43
    obtain ⟨a44, c45, rfl, hm46, hm47⟩ := hO1.src.form
    refine seqK fun Q48 kn49 kr50 ke51 => ?_
    refine seqK fun Q52 kn53 kr54 ke55 => ?_
    refine region ?_
    refine st_q (v := .int .i64 u1) (x_move rfl) ?_
    refine st_q (v := .bool (decide (0 ≤ u1))) (x_geq rfl rfl) ?_
    refine st_nil ?_
    refine kn53 _ _ ?_
    refine cnd (p := 0 ≤ u1) rfl (fun h56 => ?_) (fun h56 => ?_)
    ·
      obtain ⟨j1, rfl⟩ : ∃ j, k1 = j + 1 := ⟨k1 - 1, by omega⟩
      obtain rfl : u1 = ((j1 : Nat) : Int) := by omega
      have hdl := dupR_len xs (j1 + 1)
      refine skip ?_
      refine kn49 _ _ ?_
      refine seqK fun Q57 kn58 kr59 ke60 => ?_
      refine blockK fun Q61 kn62 kr63 kx64 kb65 => ?_
      refine regionD1 [4, 8] [0, 1, 2, 3, 4, 5, 6, 7, 8, 11] (.one 0 (.one 1 (.one 2 (.one 3 (.one 4 (.one 5 (.one 6 (.one 7 (.one 8 (.one 9 (.one 10 (.one 11 .done)))))))))))) (by kernel_rfl) (by kernel_rfl) ?_
      intro w66 hx67 hs68
      have hF69 := hO1.ext hx67
      have hE70 : Below w0.heap.size w0 w66 := hx67.e hx38 (Nat.le_refl _)
      have hz71 := hE70.le
      have hs72 := hx67.size
      have hS73 : Ext w66 w66 := Below.refl _ _
      refine d_q (v := .slice a44 ((dupR xs (j1 + 1)).length) c45) rfl rfl (fun _ => x_move rfl) ?_
      refine d_q (v := .slice a xs.length ca) rfl rfl (fun _ => x_move rfl) ?_
      refine d_q (v := .int .i64 ((j1 : Nat) : Int)) rfl rfl (fun _ => x_move rfl) ?_
      obtain ⟨b74, o75, ha76, hc77⟩ := ha.at (by omega)
      refine d_q (v := .pointer (some ⟨b74, o75 + j1 * 1, none⟩)) rfl rfl (fun _ => x_index' T.sl22 rfl ha76 rfl (by omega)) ?_
      refine d_l (v := .string (el xs j1)) rfl rfl rfl (fun v79 hw78 => x_load1 T.na9 rfl (((hc77.below hE70).elem enS_len (i := j1) (by omega)).ext hw78)) ?_
      refine d_q (v := .slice a xs.length ca) rfl rfl (fun _ => x_move rfl) ?_
      refine d_q (v := .int .i64 ((j1 : Nat) : Int)) rfl rfl (fun _ => x_move rfl) ?_
      refine d_q (v := .pointer (some ⟨b74, o75 + j1 * 1, none⟩)) rfl rfl (fun _ => x_index' T.sl22 rfl ha76 rfl (by omega)) ?_
      refine d_l (v := .string (el xs j1)) rfl rfl rfl (fun v81 hw80 => x_load1 T.na9 rfl (((hc77.below hE70).elem enS_len (i := j1) (by omega)).ext hw80)) ?_
      refine d_e (by decide) (d_e' rfl rfl (e_buildSlice (cs := [.string (el xs j1), .string (el xs j1)]) (e := 9) (fun _ => by kernel_rfl) ?_))
      intro w82 hA83
      have hx84 := hA83.ext
      have hs85 := hA83.size
      have hB86 : Blk w82.heap w66.heap.size [.string (el xs j1), .string (el xs j1)] 9 := hA83.new
      have hF87 := hF69.ext hx84
      have hE88 : Below w0.heap.size w0 w82 := hx84.e hE70 (Nat.le_refl _)
      have hz89 := hE88.le
      have hs90 := hx84.size
      have hS91 := hS73.trans (hx84.mono hS73.size)
      refine ⟨fun _ => hS91, ?_⟩
      refine d_e (by decide) (d_e' rfl rfl (e_appendX T.sl22 rfl rfl hF87 (hB86.src1 (k := 1) (m := 2) rfl (by omega)) (ones (by rfl)) (by omega) (by decide) (by omega) ?_))
      intro v92 w93 hO94 hG95 hN96 hW97
      have hE98 : Below w0.heap.size w0 w93 := grown_below hG95 hE88 (Nat.le_refl _) (fun b hb => (by have := (hF87.lt hb).1; clear hb; omega))
      have hz99 := hE98.le
      have hs100 := hG95.size
      refine ⟨need_no (by kernel_rfl), ?_⟩
      have hO101 := Own.app (enc := enS) (ys := [el xs j1, el xs j1]) hO94
      obtain ⟨a102, c103, rfl, hm104, hm105⟩ := hO101.src.form
      refine d_q (v := .slice a102 (((dupR xs (j1 + 1)).length + 2)) c103) rfl rfl (fun _ => x_assign rfl) ?_
      refine d_done ?_
      refine kn62 _ _ ?_
      refine kn58 _ _ ?_
      refine region ?_
      refine st_q (v := .int .i64 ((j1 : Nat) : Int)) (x_move rfl) ?_
      refine st_q (v := .int .i64 ((((j1 : Nat) : Int) - 1))) (x_sub rfl rfl ⟨by omega, by omega⟩) ?_
      refine st_q (v := .int .i64 ((((j1 : Nat) : Int) - 1))) (x_assign rfl) ?_
      refine st_nil ?_
      refine kn41 _ (j1, (((j1 : Nat) : Int) - 1), .slice a102 (((dupR xs (j1 + 1)).length + 2)) c103) _ ⟨rfl, rfl, rfl, rfl, rfl, rfl, trivial⟩ ⟨hE98, ?_⟩ ?_
      ·
        try dsimp only
        refine ⟨by omega, rfl, ?_⟩
        rw [dupR_step (show j1 < xs.length by omega)]
        exact Own.len hO101 (by simp)
      ·
        (try dsimp only); omega
    ·
      obtain rfl : k1 = 0 := by omega
      subst hu1
      refine exit ?_
      refine ke51 _ _ _ ?_
      refine ke43 _ _ _ ?_
      refine kb34 _ _ ?_
      refine kn23 _ _ ?_
      refine seqK fun Q106 kn107 kr108 ke109 => ?_
      refine region ?_
      refine st_q (v := .slice none 0 0) (x_assign rfl) ?_
      refine st_nil ?_
      refine kn107 _ _ ?_
      refine seqK fun Q110 kn111 kr112 ke113 => ?_
      refine seqK fun Q114 kn115 kr116 ke117 => ?_
      refine region ?_
      refine st_q (v := .slice b es.length cb) (x_move rfl) ?_
      refine st_q (v := .int .i64 ((es.length : Nat) : Int)) (x_lenSl rfl Try.underlying23 rfl) ?_
      refine st_q (v := .int .i64 ((((es.length : Nat) : Int) - 1))) (x_sub rfl rfl ⟨by omega, by omega⟩) ?_
      refine st_q (v := .int .i64 ((((es.length : Nat) : Int) - 1))) (x_assign rfl) ?_
      refine st_nil ?_
      refine kn115 _ _ ?_
      refine blockK fun Q118 kn119 kr120 kx121 kb122 => ?_
      refine loopK (α := Nat × Int × Value) (fun x => [(0, .slice a xs.length ca), (1, .slice b es.length cb), (2, .string one), (3, .string two), (9, .slice a44 ((dupR xs 0).length) c45), (11, x.2.2), (12, .int .i64 x.2.1)]) (fun x w123 => Below w0.heap.size w0 w123 ∧ (x.1 ≤ es.length ∧ x.2.1 = ((x.1 : Nat) : Int) - 1 ∧ Own w123.heap w0.heap.size 47 3 x.2.2 (dupR es x.1).length (flat enE (dupR es x.1))) ∧ Own w123.heap w0.heap.size 9 1 (.slice a44 (dupR xs 0).length c45) (dupR xs 0).length (flat enS (dupR xs 0))) (fun x => x.1) (es.length, (((es.length : Nat) : Int) - 1), .slice none 0 0) ⟨rfl, rfl, rfl, rfl, rfl, rfl, rfl, trivial⟩ ?_ ?_
      ·
        refine ⟨hx38, ?_⟩
        try dsimp only
        refine ⟨?_, hO1⟩
        refine ⟨Nat.le_refl _, rfl, ?_⟩
        rw [dupR_end]
        exact Own.nil _ _ _ _
      ·
        rintro τ124 ⟨k2, u2, v2⟩ w125 ⟨hx127, ⟨⟨hk2, hu2, hO2⟩, hC126⟩⟩
        try dsimp only at hk2 hu2 hO2 hC126
        have hz128 := hx127.le
        intro Q129 kn130 kr131 ke132
        obtain ⟨a133, c134, rfl, hm135, hm136⟩ := hO2.src.form
        refine seqK fun Q137 kn138 kr139 ke140 => ?_
        refine seqK fun Q141 kn142 kr143 ke144 => ?_
        refine region ?_
        refine st_q (v := .int .i64 u2) (x_move rfl) ?_
        refine st_q (v := .bool (decide (0 ≤ u2))) (x_geq rfl rfl) ?_
        refine st_nil ?_
        refine kn142 _ _ ?_
        refine cnd (p := 0 ≤ u2) rfl (fun h145 => ?_) (fun h145 => ?_)
        ·
          obtain ⟨j2, rfl⟩ : ∃ j, k2 = j + 1 := ⟨k2 - 1, by omega⟩
          obtain rfl : u2 = ((j2 : Nat) : Int) := by omega
          have hdl := dupR_len es (j2 + 1)
          refine skip ?_
          refine kn138 _ _ ?_
          refine seqK fun Q146 kn147 kr148 ke149 => ?_
          refine blockK fun Q150 kn151 kr152 kx153 kb154 => ?_
          refine regionD1 [4, 8] [0, 1, 2, 3, 4, 5, 6, 7, 8, 11] (.one 0 (.one 1 (.one 2 (.one 3 (.one 4 (.one 5 (.one 6 (.one 7 (.one 8 (.one 9 (.one 10 (.one 11 .done)))))))))))) (by kernel_rfl) (by kernel_rfl) ?_
          intro w155 hx156 hs157
          have hF158 := hC126.ext hx156
          have hF159 := hO2.ext hx156
          have hE160 : Below w0.heap.size w0 w155 := hx156.e hx127 (Nat.le_refl _)
          have hz161 := hE160.le
          have hs162 := hx156.size
          have hS163 : Ext w155 w155 := Below.refl _ _
          refine d_q (v := .slice a133 ((dupR es (j2 + 1)).length) c134) rfl rfl (fun _ => x_move rfl) ?_
          refine d_q (v := .slice b es.length cb) rfl rfl (fun _ => x_move rfl) ?_
          refine d_q (v := .int .i64 ((j2 : Nat) : Int)) rfl rfl (fun _ => x_move rfl) ?_
          obtain ⟨b164, o165, ha166, hc167⟩ := hb.at (by omega)
          refine d_q (v := .pointer (some ⟨b164, o165 + j2 * 3, none⟩)) rfl rfl (fun _ => x_index' T.sl23 rfl ha166 rfl (by omega)) ?_
          refine d_l (v := .agg #[.string ((el es j2).1), .string ((el es j2).2.1), .bool ((el es j2).2.2)]) rfl rfl rfl (fun v169 hw168 => x_loadA [.string ((el es j2).1), .string ((el es j2).2.1), .bool ((el es j2).2.2)] T.ag47 rfl (((hc167.below hE160).elem enE_len (i := j2) (by omega)).ext hw168)) ?_
          refine d_q (v := .slice b es.length cb) rfl rfl (fun _ => x_move rfl) ?_
          refine d_q (v := .int .i64 ((j2 : Nat) : Int)) rfl rfl (fun _ => x_move rfl) ?_
          refine d_q (v := .pointer (some ⟨b164, o165 + j2 * 3, none⟩)) rfl rfl (fun _ => x_index' T.sl23 rfl ha166 rfl (by omega)) ?_
          refine d_l (v := .agg #[.string ((el es j2).1), .string ((el es j2).2.1), .bool ((el es j2).2.2)]) rfl rfl rfl (fun v171 hw170 => x_loadA [.string ((el es j2).1), .string ((el es j2).2.1), .bool ((el es j2).2.2)] T.ag47 rfl (((hc167.below hE160).elem enE_len (i := j2) (by omega)).ext hw170)) ?_
          refine d_e (by decide) (d_e' rfl rfl (e_buildSlice (cs := [.string ((el es j2).1), .string ((el es j2).2.1), .bool ((el es j2).2.2), .string ((el es j2).1), .string ((el es j2).2.1), .bool ((el es j2).2.2)]) (e := 47) (fun _ => by kernel_rfl) ?_))
          intro w172 hA173
          have hx174 := hA173.ext
          have hs175 := hA173.size
          have hB176 : Blk w172.heap w155.heap.size [.string ((el es j2).1), .string ((el es j2).2.1), .bool ((el es j2).2.2), .string ((el es j2).1), .string ((el es j2).2.1), .bool ((el es j2).2.2)] 47 := hA173.new
          have hF177 := hF158.ext hx174
          have hF178 := hF159.ext hx174
          have hE179 : Below w0.heap.size w0 w172 := hx174.e hE160 (Nat.le_refl _)
          have hz180 := hE179.le
          have hs181 := hx174.size
          have hS182 := hS163.trans (hx174.mono hS163.size)
          refine ⟨fun _ => hS182, ?_⟩
          refine d_e (by decide) (d_e' rfl rfl (e_appendX T.sl23 rfl rfl hF178 (hB176.src1 (k := 3) (m := 2) rfl (by omega)) (ones (by rfl)) (by omega) (by decide) (by omega) ?_))
          intro v183 w184 hO185 hG186 hN187 hW188
          have hF189 := hF177.gk (hG186) (hF178.rowk) (by decide)
          have hE190 : Below w0.heap.size w0 w184 := grown_below hG186 hE179 (Nat.le_refl _) (fun b hb => (by have := (hF178.lt hb).1; clear hb; omega))
          have hz191 := hE190.le
          have hs192 := hG186.size
          refine ⟨need_no (by kernel_rfl), ?_⟩
          have hO193 := Own.app (enc := enE) (ys := [(el es j2), (el es j2)]) hO185
          obtain ⟨a194, c195, rfl, hm196, hm197⟩ := hO193.src.form
          refine d_q (v := .slice a194 (((dupR es (j2 + 1)).length + 2)) c195) rfl rfl (fun _ => x_assign rfl) ?_
          refine d_done ?_
          refine kn151 _ _ ?_
          refine kn147 _ _ ?_
          refine region ?_
          refine st_q (v := .int .i64 ((j2 : Nat) : Int)) (x_move rfl) ?_
          refine st_q (v := .int .i64 ((((j2 : Nat) : Int) - 1))) (x_sub rfl rfl ⟨by omega, by omega⟩) ?_
          refine st_q (v := .int .i64 ((((j2 : Nat) : Int) - 1))) (x_assign rfl) ?_
          refine st_nil ?_
          refine kn130 _ (j2, (((j2 : Nat) : Int) - 1), .slice a194 (((dupR es (j2 + 1)).length + 2)) c195) _ ⟨rfl, rfl, rfl, rfl, rfl, rfl, rfl, trivial⟩ ⟨hE190, ?_⟩ ?_
          ·
            try dsimp only
            refine ⟨?_, hF189⟩
            refine ⟨by omega, rfl, ?_⟩
            rw [dupR_step (show j2 < es.length by omega)]
            exact Own.len hO193 (by simp)
          ·
            (try dsimp only); omega
        ·
          obtain rfl : k2 = 0 := by omega
          subst hu2
          refine exit ?_
          refine ke140 _ _ _ ?_
          refine ke132 _ _ _ ?_
          refine kb122 _ _ ?_
          refine kn111 _ _ ?_
          refine seqK fun Q198 kn199 kr200 ke201 => ?_
          refine region ?_
          have hmx : ∀ x, x ∈ dupR xs 0 ↔ x ∈ xs := fun _ => dupR_mem
          have hme : ∀ e, e ∈ dupR es 0 ↔ e ∈ es := fun _ => dupR_mem
          have hfx2 : FitS (dupR xs 0) := fun s hs => hfx s ((hmx s).1 hs)
          have hfe2 : FitE (dupR es 0) := fit_sub hfe (fun e he => (hme e).1 he)
          have hl1 := dupR_len xs 0
          have hl2 := dupR_len es 0
          have hft : FitE (es.map turn) := fun e he => ⟨(hfe _ (mem_turn.1 he)).2, (hfe _ (mem_turn.1 he)).1⟩
          refine st_q (v := .slice a xs.length ca) (x_move rfl) ?_
          refine st_q (v := .slice b es.length cb) (x_move rfl) ?_
          have hends : ∀ k, k < es.length → (el es k).1 ∈ (nodesL xs es) ∧ (el es k).2.1 ∈ (nodesL xs es) := fun k hk => ⟨nodesL_mem.2 (.inr ⟨_, el_memE hk, .inl rfl⟩), nodesL_mem.2 (.inr ⟨_, el_memE hk, .inr rfl⟩)⟩
          refine st_c (t_call [.slice a xs.length ca, .slice b es.length cb] T.cf16 rfl rfl) (levels16 xs es _ _ _ (ha.below hx127) (hb.below hx127) hfx hfe hn) ?_
          rintro _ w202 (⟨hn206, rfl, hx203⟩ | ⟨hn206, v204, lev, rfl, hx203, hIs, hO205⟩)
          ·
            refine ⟨_, rfl, ?_⟩
            have hF207 := hC126.ext hx203
            have hF208 := hO2.ext hx203
            have hE209 : Below w0.heap.size w0 w202 := hx203.e hx127 (Nat.le_refl _)
            have hz210 := hE209.le
            have hs211 := hx203.size
            refine st_q (v := .tuple #[.slice none 0 0, .int .i64 ((15 : Nat) : Int)]) (x_move rfl) ?_
            refine st_q (v := .slice none 0 0) (x_extract rfl rfl) ?_
            refine st_q (v := .int .i64 ((15 : Nat) : Int)) (x_extract rfl rfl) ?_
            refine st_q (v := .slice none 0 0) (x_assign rfl) ?_
            refine st_q (v := .int .i64 ((15 : Nat) : Int)) (x_assign rfl) ?_
            refine st_nil ?_
            refine kn199 _ _ ?_
            refine seqK fun Q212 kn213 kr214 ke215 => ?_
            refine region ?_
            refine st_q (v := .slice a44 ((dupR xs 0).length) c45) (x_move rfl) ?_
            refine st_q (v := .slice a133 ((dupR es 0).length) c134) (x_move rfl) ?_
            refine st_c (t_call [.slice a44 ((dupR xs 0).length) c45, .slice a133 ((dupR es 0).length) c134] T.cf16 rfl rfl) (levels16 (dupR xs 0) (dupR es 0) _ _ _ hF207.src hF208.src hfx2 hfe2 (by omega)) ?_
            rintro _ w216 (⟨_, rfl, hx217⟩ | ⟨hn220, _⟩)
            rotate_left
            · exact absurd ((NegLoop.congr hme).2 hn206) hn220
            refine ⟨_, rfl, ?_⟩
            have hF221 := hF207.ext hx217
            have hF222 := hF208.ext hx217
            have hE223 : Below w0.heap.size w0 w216 := hx217.e hE209 (Nat.le_refl _)
            have hz224 := hE223.le
            have hs225 := hx217.size
            refine st_q (v := .tuple #[.slice none 0 0, .int .i64 ((15 : Nat) : Int)]) (x_move rfl) ?_
            refine st_q (v := .slice none 0 0) (x_extract rfl rfl) ?_
            refine st_q (v := .int .i64 ((15 : Nat) : Int)) (x_extract rfl rfl) ?_
            refine st_q (v := .slice none 0 0) (x_assign rfl) ?_
            refine st_q (v := .int .i64 ((15 : Nat) : Int)) (x_assign rfl) ?_
            refine st_nil ?_
            refine kn213 _ _ ?_
            refine seqK fun Q226 kn227 kr228 ke229 => ?_
            refine region ?_
            refine st_q (v := .slice a xs.length ca) (x_move rfl) ?_
            refine st_q (v := .slice b es.length cb) (x_move rfl) ?_
            refine st_c (t_call [.slice a xs.length ca, .slice b es.length cb] T.cf11 rfl rfl) (parts11 xs es _ _ _ (ha.below hE223) (hb.below hE223) hfx hfe hn) ?_
            rintro _ w230 ⟨v232, us1, P, rfl, hx231, hG1, hO233, hPI1⟩
            refine ⟨_, rfl, ?_⟩
            have hF234 := hF221.ext hx231
            have hF235 := hF222.ext hx231
            have hE236 : Below w0.heap.size w0 w230 := hx231.e hE223 (Nat.le_refl _)
            have hz237 := hE236.le
            have hs238 := hx231.size
            have hRI1 : RowsIn w230.heap v232 us1 P := RowsIn.of hO233 hPI1
            have hE1_ : Ext w230 w230 := Below.refl _ _
            have hvl1 := hRI1.len
            obtain ⟨pa1, pc1, rfl, _, _⟩ := hRI1.src.form
            refine st_q (v := .slice a44 ((dupR xs 0).length) c45) (x_move rfl) ?_
            refine st_q (v := .slice a133 ((dupR es 0).length) c134) (x_move rfl) ?_
            refine st_c (t_call [.slice a44 ((dupR xs 0).length) c45, .slice a133 ((dupR es 0).length) c134] T.cf11 rfl rfl) (parts11 (dupR xs 0) (dupR es 0) _ _ _ hF234.src hF235.src hfx2 hfe2 (by omega)) ?_
            rintro _ w239 ⟨v241, us2, Q, rfl, hx240, hG2, hO242, hPI2⟩
            refine ⟨_, rfl, ?_⟩
            have hF243 := hF234.ext hx240
            have hF244 := hF235.ext hx240
            have hF245 := hx240.e hE1_ (Nat.le_refl _)
            have hE246 : Below w0.heap.size w0 w239 := hx240.e hE236 (Nat.le_refl _)
            have hz247 := hE246.le
            have hs248 := hx240.size
            have hRI2 : RowsIn w239.heap v241 us2 Q := RowsIn.of hO242 hPI2
            have hE2_ : Ext w239 w239 := Below.refl _ _
            have hvl2 := hRI2.len
            obtain ⟨pa2, pc2, rfl, _, _⟩ := hRI2.src.form
            refine st_q (v := .slice a xs.length ca) (x_move rfl) ?_
            refine st_q (v := .slice b es.length cb) (x_move rfl) ?_
            refine st_c (t_call [.slice b es.length cb] T.cf28 rfl rfl) (turned28 es _ _ (hb.below hE246) (by omega)) ?_
            rintro _ w249 ⟨v251, rfl, hx250, hO252⟩
            refine ⟨_, rfl, ?_⟩
            have hF253 := hF243.ext hx250
            have hF254 := hF244.ext hx250
            have hF255 := hx250.e hF245 (Nat.le_refl _)
            have hF256 := hx250.e hE2_ (Nat.le_refl _)
            have hE257 : Below w0.heap.size w0 w249 := hx250.e hE246 (Nat.le_refl _)
            have hz258 := hE257.le
            have hs259 := hx250.size
            refine st_c (t_call [.slice a xs.length ca, v251] T.cf11 rfl rfl) (parts11 xs (es.map turn) _ _ _ (ha.below hE257) (Own.len hO252 (by simp)).src hfx hft (by rw [List.length_map]; exact hn)) ?_
            rintro _ w260 ⟨v262, us3, B, rfl, hx261, hG3, hO263, hPI3⟩
            refine ⟨_, rfl, ?_⟩
            have hF264 := hF253.ext hx261
            have hF265 := hF254.ext hx261
            have hF266 := hx261.e hF255 (Nat.le_refl _)
            have hF267 := hx261.e hF256 (Nat.le_refl _)
            have hF268 := hO252.ext hx261
            have hE269 : Below w0.heap.size w0 w260 := hx261.e hE257 (Nat.le_refl _)
            have hz270 := hE269.le
            have hs271 := hx261.size
            have hRI3 : RowsIn w260.heap v262 us3 B := RowsIn.of hO263 hPI3
            have hE3_ : Ext w260 w260 := Below.refl _ _
            have hvl3 := hRI3.len
            obtain ⟨pa3, pc3, rfl, _, _⟩ := hRI3.src.form
            have ePQ : P = Q := parts_same hme hmx hG1 hG2
            have hBk := turned_parts hG1 hG3
            refine st_q (v := .slice pa1 P.length pc1) (x_assign rfl) ?_
            refine st_q (v := .slice pa2 Q.length pc2) (x_assign rfl) ?_
            refine st_q (v := .slice pa3 B.length pc3) (x_assign rfl) ?_
            refine st_nil ?_
            refine kn227 _ _ ?_
            refine seqK fun Q272 kn273 kr274 ke275 => ?_
            refine seqK fun Q276 kn277 kr278 ke279 => ?_
            refine region ?_
            refine st_q (v := .slice none 0 0) (x_move rfl) ?_
            refine st_q (v := .slice none 0 0) (x_move rfl) ?_
            refine st_c (t_call [.slice none 0 0, .slice none 0 0] T.cf20 rfl rfl) (sameRanks20 [] [] _ _ _ (Src.nil _ _) (Src.nil _ _)) ?_
            rintro _ w280 ⟨e282, hx281⟩
            rw [decide_eq_true rfl] at e282
            subst e282
            refine ⟨_, rfl, ?_⟩
            have hF283 := hF264.ext hx281
            have hF284 := hF265.ext hx281
            have hF285 := hx281.e hF266 (Nat.le_refl _)
            have hF286 := hx281.e hF267 (Nat.le_refl _)
            have hF287 := hF268.ext hx281
            have hF288 := hx281.e hE3_ (Nat.le_refl _)
            have hE289 : Below w0.heap.size w0 w280 := hx281.e hE269 (Nat.le_refl _)
            have hz290 := hE289.le
            have hs291 := hx281.size
            refine st_q (v := .bool false) (x_notB (b := true) rfl) ?_
            refine st_q (v := .bool false) (x_move rfl) ?_
            refine st_gq 4 87 rfl rfl (by decide) ?_
            refine st_q (v := .int .i64 ((15 : Nat) : Int)) (x_move rfl) ?_
            refine st_gq 4 87 rfl rfl (by decide) ?_
            refine st_q (v := .int .i64 ((15 : Nat) : Int)) (x_move rfl) ?_
            refine st_gq 4 87 rfl rfl (by decide) ?_
            refine st_q (v := .bool (decide (15 ≠ 15))) (x_neqN rfl rfl) ?_
            refine st_q (v := .bool (decide (15 ≠ 15))) (x_pickF rfl rfl) ?_
            refine st_if (p := 15 ≠ 15) (x_move rfl) (fun h292 => ?_) (fun h292 => ?_)
            ·
              exact absurd h292 (not_not_intro rfl)
            ·
              refine st_gq 9 92 rfl rfl (by decide) ?_
              refine st_q (v := .slice pa1 P.length pc1) (x_move rfl) ?_
              refine st_gq 9 92 rfl rfl (by decide) ?_
              refine st_q (v := .slice pa2 Q.length pc2) (x_move rfl) ?_
              refine st_gq 9 92 rfl rfl (by decide) ?_
              refine st_c (t_call [.slice pa1 P.length pc1, .slice pa2 Q.length pc2] T.cf13 rfl rfl) (sameParts13 P Q us1 us2 _ _ _ (RowsIn.below hRI1 hF285) (RowsIn.below hRI2 hF286)) ?_
              rintro _ w293 ⟨e295, hx294⟩
              rw [decide_eq_true ePQ] at e295
              subst e295
              refine ⟨_, rfl, ?_⟩
              have hF296 := hF283.ext hx294
              have hF297 := hF284.ext hx294
              have hF298 := hx294.e hF285 (Nat.le_refl _)
              have hF299 := hx294.e hF286 (Nat.le_refl _)
              have hF300 := hF287.ext hx294
              have hF301 := hx294.e hF288 (Nat.le_refl _)
              have hE302 : Below w0.heap.size w0 w293 := hx294.e hE289 (Nat.le_refl _)
              have hz303 := hE302.le
              have hs304 := hx294.size
              refine st_gq 9 92 rfl rfl (by decide) ?_
              refine st_q (v := .bool false) (x_notB (b := true) rfl) ?_
              refine st_q (v := .bool false) (x_pickF rfl rfl) ?_
              refine st_q (v := .bool false) (x_move rfl) ?_
              refine st_gq 15 98 rfl rfl (by decide) ?_
              refine st_q (v := .slice pa3 B.length pc3) (x_move rfl) ?_
              refine st_gq 15 98 rfl rfl (by decide) ?_
              refine st_q (v := .int .i64 ((B.length : Nat) : Int)) (x_lenSl rfl Try.underlying26 rfl) ?_
              refine st_gq 15 98 rfl rfl (by decide) ?_
              refine st_q (v := .slice pa1 P.length pc1) (x_move rfl) ?_
              refine st_gq 15 98 rfl rfl (by decide) ?_
              refine st_q (v := .int .i64 ((P.length : Nat) : Int)) (x_lenSl rfl Try.underlying26 rfl) ?_
              refine st_gq 15 98 rfl rfl (by decide) ?_
              refine st_q (v := .bool (decide (B.length ≠ P.length))) (x_neqN rfl rfl) ?_
              refine st_q (v := .bool (decide (B.length ≠ P.length))) (x_pickF rfl rfl) ?_
              refine st_nil ?_
              refine kn277 _ _ ?_
              refine cnd (p := B.length ≠ P.length) rfl (fun h305 => ?_) (fun h305 => ?_)
              ·
                exact absurd h305 (not_not_intro hBk.len)
              ·
                refine skip ?_
                refine kn273 _ _ ?_
                refine seqK fun Q306 kn307 kr308 ke309 => ?_
                refine seqK fun Q310 kn311 kr312 ke313 => ?_
                refine region ?_
                refine st_q (v := .int .i64 ((0 : Nat) : Int)) (x_assign rfl) ?_
                refine st_nil ?_
                refine kn311 _ _ ?_
                refine blockK fun Q314 kn315 kr316 kx317 kb318 => ?_
                refine loopK (α := Nat) (fun x => [(1, .slice b es.length cb), (2, .string one), (3, .string two), (11, .slice a133 ((dupR es 0).length) c134), (17, .slice pa1 P.length pc1), (19, .slice pa3 B.length pc3), (20, .int .i64 ((x : Nat) : Int))]) (fun x w319 => Ext w293 w319 ∧ x ≤ P.length) (fun x => P.length - x) (0) ⟨rfl, rfl, rfl, rfl, rfl, rfl, rfl, trivial⟩ ?_ ?_
                ·
                  refine ⟨Below.refl _ _, ?_⟩
                  try dsimp only
                  exact Nat.zero_le _
                ·
                  rintro τ320 i w321 ⟨hx322, hi⟩
                  try dsimp only at hi
                  have hF323 := hF296.ext hx322
                  have hF324 := hF297.ext hx322
                  have hF325 := hx322.e hF298 (Nat.le_refl _)
                  have hF326 := hx322.e hF299 (Nat.le_refl _)
                  have hF327 := hF300.ext hx322
                  have hF328 := hx322.e hF301 (Nat.le_refl _)
                  have hE329 : Below w0.heap.size w0 w321 := hx322.e hE302 (Nat.le_refl _)
                  have hz330 := hE329.le
                  have hs331 := hx322.size
                  intro Q332 kn333 kr334 ke335
                  refine seqK fun Q336 kn337 kr338 ke339 => ?_
                  refine seqK fun Q340 kn341 kr342 ke343 => ?_
                  refine region ?_
                  refine st_q (v := .int .i64 ((i : Nat) : Int)) (x_move rfl) ?_
                  refine st_q (v := .slice pa1 P.length pc1) (x_move rfl) ?_
                  refine st_q (v := .int .i64 ((P.length : Nat) : Int)) (x_lenSl rfl Try.underlying26 rfl) ?_
                  refine st_q (v := .bool (decide (i < P.length))) (x_lssN rfl rfl) ?_
                  refine st_nil ?_
                  refine kn341 _ _ ?_
                  refine cnd (p := i < P.length) rfl (fun h344 => ?_) (fun h344 => ?_)
                  ·
                    refine skip ?_
                    refine kn337 _ _ ?_
                    refine seqK fun Q345 kn346 kr347 ke348 => ?_
                    refine blockK fun Q349 kn350 kr351 kx352 kb353 => ?_
                    refine seqK fun Q354 kn355 kr356 ke357 => ?_
                    refine seqK fun Q358 kn359 kr360 ke361 => ?_
                    refine region ?_
                    have hbr := hBk.row i (by omega)
                    have hb0 := hbr.1
                    have hb1 := hbr.2.1
                    have hb2 := hbr.2.2
                    refine st_q (v := .slice pa1 P.length pc1) (x_move rfl) ?_
                    refine st_q (v := .int .i64 ((i : Nat) : Int)) (x_move rfl) ?_
                    obtain ⟨b362, o363, ha364, hc365⟩ := hRI1.src.at (by omega)
                    refine st_q (v := .pointer (some ⟨b362, o363 + i * 1, none⟩)) (x_index' T.sl26 rfl ha364 rfl (by omega)) ?_
                    obtain ⟨q366, c367, e368, hs369⟩ := hRI1.row i (by omega)
                    have hcp370 := hs369.capl
                    refine st_q (v := .slice q366 ((el P i).length) c367) (x_load1 T.na22 rfl (Cells.conv ((hc365.below hF325).elem enV_len (i := i) (by omega)) e368)) ?_
                    refine st_q (v := .int .i64 (((el P i).length : Nat) : Int)) (x_lenSl rfl Try.underlying22 rfl) ?_
                    refine st_q (v := .bool (decide (((el P i).length) = 0))) (x_eqlN rfl rfl) ?_
                    refine st_nil ?_
                    refine kn359 _ _ ?_
                    refine cnd (p := ((el P i).length) = 0) rfl (fun h371 => ?_) (fun h371 => ?_)
                    ·
                      exact absurd h371 (by omega)
                    ·
                      refine skip ?_
                      refine kn355 _ _ ?_
                      refine seqK fun Q372 kn373 kr374 ke375 => ?_
                      refine region ?_
                      refine st_q (v := .slice pa3 B.length pc3) (x_move rfl) ?_
                      refine st_q (v := .slice pa1 P.length pc1) (x_move rfl) ?_
                      refine st_q (v := .int .i64 ((i : Nat) : Int)) (x_move rfl) ?_
                      refine st_q (v := .pointer (some ⟨b362, o363 + i * 1, none⟩)) (x_index' T.sl26 rfl ha364 rfl (by omega)) ?_
                      obtain ⟨q376, c377, e378, hs379⟩ := hRI1.row i (by omega)
                      have hcp380 := hs379.capl
                      refine st_q (v := .slice q376 ((el P i).length) c377) (x_load1 T.na22 rfl (Cells.conv ((hc365.below hF325).elem enV_len (i := i) (by omega)) e378)) ?_
                      obtain ⟨b381, o382, ha383, hc384⟩ := hs379.at (by omega)
                      refine st_q (v := .pointer (some ⟨b381, o382 + 0 * 1, none⟩)) (x_index' T.sl22 rfl ha383 rfl (by omega)) ?_
                      refine st_q (v := .string (el (el P i) 0)) (x_load1 T.na9 rfl ((hc384.below hF325).elem enS_len (i := 0) (by omega))) ?_
                      refine st_c (t_call [.slice pa3 B.length pc3, .string (el (el P i) 0)] T.cf23 rfl rfl) (part23 B us3 (el (el P i) 0) _ _ (RowsIn.below hRI3 hF328)) ?_
                      rintro _ w385 ⟨e387, hx386⟩
                      rw [prt_pos hb1] at e387
                      subst e387
                      refine ⟨_, rfl, ?_⟩
                      have hF388 := hF323.ext hx386
                      have hF389 := hF324.ext hx386
                      have hF390 := hx386.e hF325 (Nat.le_refl _)
                      have hF391 := hx386.e hF326 (Nat.le_refl _)
                      have hF392 := hF327.ext hx386
                      have hF393 := hx386.e hF328 (Nat.le_refl _)
                      have hF394 := hx386.e hx322 (Nat.le_refl _)
                      have hE395 : Below w0.heap.size w0 w385 := hx386.e hE329 (Nat.le_refl _)
                      have hz396 := hE395.le
                      have hs397 := hx386.size
                      refine st_q (v := .int .i64 (((pos B (el (el P i) 0)) : Nat) : Int)) (x_assign rfl) ?_
                      refine st_nil ?_
                      refine kn373 _ _ ?_
                      refine seqK fun Q398 kn399 kr400 ke401 => ?_
                      refine regionD1 [6, 10] [0, 1, 2, 3, 4, 5, 6, 7, 8, 9, 10, 12, 13] (.one 0 (.one 1 (.one 2 (.one 3 (.one 4 (.one 5 (.one 6 (.one 7 (.one 8 (.one 9 (.one 10 (.one 11 (.one 12 (.one 13 .done)))))))))))))) (by kernel_rfl) (by kernel_rfl) ?_
                      intro w402 hx403 hs404
                      have hF405 := hF388.ext hx403
                      have hF406 := hF389.ext hx403
                      have hF407 := hx403.e hF390 (Nat.le_refl _)
                      have hF408 := hx403.e hF391 (Nat.le_refl _)
                      have hF409 := hF392.ext hx403
                      have hF410 := hx403.e hF393 (Nat.le_refl _)
                      have hF411 := hx403.e hF394 (Nat.le_refl _)
                      have hE412 : Below w0.heap.size w0 w402 := hx403.e hE395 (Nat.le_refl _)
                      have hz413 := hE412.le
                      have hs414 := hx403.size
                      have hS415 : Ext w402 w402 := Below.refl _ _
                      refine d_q (v := .int .i64 (((pos B (el (el P i) 0)) : Nat) : Int)) rfl rfl (fun _ => x_move rfl) ?_
                      refine d_q (v := .bool (decide (((pos B (el (el P i) 0))) < 0))) rfl rfl (fun _ => x_lssN rfl rfl) ?_
                      refine d_if rfl rfl (p := ((pos B (el (el P i) 0))) < 0) (fun _ => x_move rfl) (fun h416 => ?_) (fun h416 => ?_)
                      ·
                        exact absurd h416 (by omega)
                      ·
                        refine d_gq (v := .slice pa3 B.length pc3) (j := 2) (t := 127) rfl rfl rfl rfl (by decide) (fun _ => x_move rfl) ?_
                        refine d_gq (v := .int .i64 (((pos B (el (el P i) 0)) : Nat) : Int)) (j := 2) (t := 127) rfl rfl rfl rfl (by decide) (fun _ => x_move rfl) ?_
                        obtain ⟨b417, o418, ha419, hc420⟩ := hRI3.src.at (by omega)
                        refine d_gq (v := .pointer (some ⟨b417, o418 + ((pos B (el (el P i) 0))) * 1, none⟩)) (j := 2) (t := 127) rfl rfl rfl rfl (by decide) (fun _ => x_index' T.sl26 rfl ha419 rfl (by omega)) ?_
                        obtain ⟨q423, c424, e425, hs426⟩ := hRI3.row ((pos B (el (el P i) 0))) (by omega)
                        have hcp427 := hs426.capl
                        refine d_gl (v := .slice q423 ((el B ((pos B (el (el P i) 0)))).length) c424) (j := 2) (t := 127) rfl rfl rfl rfl rfl (by decide) (fun v422 hw421 => x_load1 T.na22 rfl (Cells.conv (((hc420.below hF410).elem enV_len (i := (pos B (el (el P i) 0))) (by omega)).ext hw421) e425)) ?_
                        refine d_gq (v := .slice pa1 P.length pc1) (j := 2) (t := 127) rfl rfl rfl rfl (by decide) (fun _ => x_move rfl) ?_
                        refine d_gq (v := .int .i64 ((i : Nat) : Int)) (j := 2) (t := 127) rfl rfl rfl rfl (by decide) (fun _ => x_move rfl) ?_
                        refine d_gq (v := .pointer (some ⟨b362, o363 + i * 1, none⟩)) (j := 2) (t := 127) rfl rfl rfl rfl (by decide) (fun _ => x_index' T.sl26 rfl ha364 rfl (by omega)) ?_
                        obtain ⟨q430, c431, e432, hs433⟩ := hRI1.row i (by omega)
                        have hcp434 := hs433.capl
                        refine d_gl (v := .slice q430 ((el P i).length) c431) (j := 2) (t := 127) rfl rfl rfl rfl rfl (by decide) (fun v429 hw428 => x_load1 T.na22 rfl (Cells.conv (((hc365.below hF407).elem enV_len (i := i) (by omega)).ext hw428) e432)) ?_
                        refine d_e (by decide) (d_c' rfl (wanted_true (j := 2) (t := 127) rfl rfl (by decide)) (t_call [.slice q423 ((el B ((pos B (el (el P i) 0)))).length) c424, .slice q430 ((el P i).length) c431] T.cf29 rfl rfl) (same29 (el B (pos B (el (el P i) 0))) (el P i) _ _ _ (hs426.below hF410) (hs433.below hF407)) ?_)
                        rintro _ w435 ⟨e437, hx436⟩
                        rw [decide_eq_true hb2] at e437
                        subst e437
                        refine ⟨_, rfl, ?_⟩
                        have hF438 := hF405.ext hx436
                        have hF439 := hF406.ext hx436
                        have hF440 := hx436.e hF407 (Nat.le_refl _)
                        have hF441 := hx436.e hF408 (Nat.le_refl _)
                        have hF442 := hF409.ext hx436
                        have hF443 := hx436.e hF410 (Nat.le_refl _)
                        have hF444 := hx436.e hF411 (Nat.le_refl _)
                        have hE445 : Below w0.heap.size w0 w435 := hx436.e hE412 (Nat.le_refl _)
                        have hz446 := hE445.le
                        have hs447 := hx436.size
                        have hS448 := hS415.trans (hx436.mono hS415.size)
                        refine ⟨fun _ => hS448, ?_⟩
                        refine d_gq (v := .bool false) (j := 2) (t := 127) rfl rfl rfl rfl (by decide) (fun _ => x_notB (b := true) rfl) ?_
                        refine d_q (v := .bool false) rfl rfl (fun _ => x_pickF rfl rfl) ?_
                        refine d_done ?_
                        refine kn399 _ _ ?_
                        refine cndF rfl ?_
                        refine skip ?_
                        refine kn350 _ _ ?_
                        refine kn346 _ _ ?_
                        refine region ?_
                        refine st_q (v := .int .i64 ((i : Nat) : Int)) (x_move rfl) ?_
                        refine st_q (v := .int .i64 (((i + 1) : Nat) : Int)) (x_addN rfl rfl (by omega)) ?_
                        refine st_q (v := .int .i64 (((i + 1) : Nat) : Int)) (x_assign rfl) ?_
                        refine st_nil ?_
                        refine kn333 _ ((i + 1)) _ ⟨rfl, rfl, rfl, rfl, rfl, rfl, rfl, trivial⟩ ⟨hF444, ?_⟩ ?_
                        ·
                          try dsimp only
                          exact (by omega)
                        ·
                          (try dsimp only); omega
                  ·
                    refine exit ?_
                    refine ke339 _ _ _ ?_
                    refine ke335 _ _ _ ?_
                    refine kb318 _ _ ?_
                    refine kn307 _ _ ?_
                    refine seqK fun Q449 kn450 kr451 ke452 => ?_
                    refine region ?_
                    refine st_q (v := .slice b es.length cb) (x_move rfl) ?_
                    refine st_q (v := .string one) (x_move rfl) ?_
                    refine st_e (e_buildSlice (cs := [.string one]) (e := 9) (fun _ => by kernel_rfl) ?_)
                    intro w453 hA454
                    have hx455 := hA454.ext
                    have hs456 := hA454.size
                    have hB457 : Blk w453.heap w321.heap.size [.string one] 9 := hA454.new
                    have hF458 := hF323.ext hx455
                    have hF459 := hF324.ext hx455
                    have hF460 := hx455.e hF325 (Nat.le_refl _)
                    have hF461 := hx455.e hF326 (Nat.le_refl _)
                    have hF462 := hF327.ext hx455
                    have hF463 := hx455.e hF328 (Nat.le_refl _)
                    have hF464 := hx455.e hx322 (Nat.le_refl _)
                    have hE465 : Below w0.heap.size w0 w453 := hx455.e hE329 (Nat.le_refl _)
                    have hz466 := hE465.le
                    have hs467 := hx455.size
                    have hl468 : Src w453.heap (.slice (some ⟨w321.heap.size, 0, none⟩) 1 1) (([one] : List ByteArray) : List _).length 1 (flat enS ([one] : List ByteArray)) := hB457.src1 (k := 1) (m := 1) rfl (by omega)
                    refine st_c (t_call [.slice b es.length cb, .slice ((some ⟨w321.heap.size, 0, none⟩)) 1 1] T.cf26 rfl rfl) (reach26 es [one] _ _ _ (hb.below hE465) hl468 (fun s hs => by rw [List.mem_singleton] at hs; subst hs; exact h1s) hfe (by simp only [List.length_singleton]; omega)) ?_
                    rintro _ w469 ⟨v471, Ra, rfl, hx470, hRa, hO472⟩
                    refine ⟨_, rfl, ?_⟩
                    have hB473 := hB457.ext hx470
                    have hF474 := hF458.ext hx470
                    have hF475 := hF459.ext hx470
                    have hF476 := hx470.e hF460 (Nat.le_refl _)
                    have hF477 := hx470.e hF461 (Nat.le_refl _)
                    have hF478 := hF462.ext hx470
                    have hF479 := hx470.e hF463 (Nat.le_refl _)
                    have hF480 := hx470.e hF464 (Nat.le_refl _)
                    have hE481 : Below w0.heap.size w0 w469 := hx470.e hE465 (Nat.le_refl _)
                    have hz482 := hE481.le
                    have hs483 := hx470.size
                    refine st_q (v := .string two) (x_move rfl) ?_
                    refine st_c (t_call [v471, .string two] T.cf27 rfl rfl) (among27 Ra two _ _ hO472.src) ?_
                    rintro _ w484 ⟨e486, hx485⟩
                    obtain hin | hin := Bool.eq_false_or_eq_true (inB Ra two)
                    ·
                      rw [hin] at e486
                      subst e486
                      refine ⟨_, rfl, ?_⟩
                      have hB487 := hB473.ext hx485
                      have hF488 := hF474.ext hx485
                      have hF489 := hF475.ext hx485
                      have hF490 := hx485.e hF476 (Nat.le_refl _)
                      have hF491 := hx485.e hF477 (Nat.le_refl _)
                      have hF492 := hF478.ext hx485
                      have hF493 := hx485.e hF479 (Nat.le_refl _)
                      have hF494 := hx485.e hF480 (Nat.le_refl _)
                      have hF495 := hO472.ext hx485
                      have hE496 : Below w0.heap.size w0 w484 := hx485.e hE481 (Nat.le_refl _)
                      have hz497 := hE496.le
                      have hs498 := hx485.size
                      refine st_q (v := .bool true) (x_assign rfl) ?_
                      refine st_nil ?_
                      refine kn450 _ _ ?_
                      refine seqK fun Q499 kn500 kr501 ke502 => ?_
                      refine region ?_
                      refine st_q (v := .bool true) (x_move rfl) ?_
                      refine st_q (v := .slice b es.length cb) (x_move rfl) ?_
                      refine st_c (t_call [.slice b es.length cb] T.cf28 rfl rfl) (turned28 es _ _ (hb.below hE496) (by omega)) ?_
                      rintro _ w503 ⟨v505, rfl, hx504, hO506⟩
                      refine ⟨_, rfl, ?_⟩
                      have hB507 := hB487.ext hx504
                      have hF508 := hF488.ext hx504
                      have hF509 := hF489.ext hx504
                      have hF510 := hx504.e hF490 (Nat.le_refl _)
                      have hF511 := hx504.e hF491 (Nat.le_refl _)
                      have hF512 := hF492.ext hx504
                      have hF513 := hx504.e hF493 (Nat.le_refl _)
                      have hF514 := hx504.e hF494 (Nat.le_refl _)
                      have hF515 := hF495.ext hx504
                      have hE516 : Below w0.heap.size w0 w503 := hx504.e hE496 (Nat.le_refl _)
                      have hz517 := hE516.le
                      have hs518 := hx504.size
                      refine st_q (v := .string two) (x_move rfl) ?_
                      refine st_e (e_buildSlice (cs := [.string two]) (e := 9) (fun _ => by kernel_rfl) ?_)
                      intro w519 hA520
                      have hx521 := hA520.ext
                      have hs522 := hA520.size
                      have hB523 : Blk w519.heap w503.heap.size [.string two] 9 := hA520.new
                      have hB524 := hB507.ext hx521
                      have hF525 := hF508.ext hx521
                      have hF526 := hF509.ext hx521
                      have hF527 := hx521.e hF510 (Nat.le_refl _)
                      have hF528 := hx521.e hF511 (Nat.le_refl _)
                      have hF529 := hO506.ext hx521
                      have hF530 := hx521.e hF513 (Nat.le_refl _)
                      have hF531 := hx521.e hF514 (Nat.le_refl _)
                      have hF532 := hF515.ext hx521
                      have hE533 : Below w0.heap.size w0 w519 := hx521.e hE516 (Nat.le_refl _)
                      have hz534 := hE533.le
                      have hs535 := hx521.size
                      have hl536 : Src w519.heap (.slice (some ⟨w503.heap.size, 0, none⟩) 1 1) (([two] : List ByteArray) : List _).length 1 (flat enS ([two] : List ByteArray)) := hB523.src1 (k := 1) (m := 1) rfl (by omega)
                      refine st_c (t_call [v505, .slice ((some ⟨w503.heap.size, 0, none⟩)) 1 1] T.cf26 rfl rfl) (reach26 (es.map turn) [two] _ _ _ (Own.len hF529 (by simp)).src hl536 (fun s hs => by rw [List.mem_singleton] at hs; subst hs; exact h2s) hft (by simp only [List.length_singleton, List.length_map]; omega)) ?_
                      rintro _ w537 ⟨v539, Rb, rfl, hx538, hRb, hO540⟩
                      refine ⟨_, rfl, ?_⟩
                      have hB541 := hB524.ext hx538
                      have hB542 := hB523.ext hx538
                      have hF543 := hF525.ext hx538
                      have hF544 := hF526.ext hx538
                      have hF545 := hx538.e hF527 (Nat.le_refl _)
                      have hF546 := hx538.e hF528 (Nat.le_refl _)
                      have hF547 := hF529.ext hx538
                      have hF548 := hx538.e hF530 (Nat.le_refl _)
                      have hF549 := hx538.e hF531 (Nat.le_refl _)
                      have hF550 := hF532.ext hx538
                      have hE551 : Below w0.heap.size w0 w537 := hx538.e hE533 (Nat.le_refl _)
                      have hz552 := hE551.le
                      have hs553 := hx538.size
                      refine st_q (v := .string one) (x_move rfl) ?_
                      refine st_c (t_call [v539, .string one] T.cf27 rfl rfl) (among27 Rb one _ _ hO540.src) ?_
                      rintro _ w554 ⟨e556, hx555⟩
                      rw [reach_back hRa hRb, hin] at e556
                      subst e556
                      refine ⟨_, rfl, ?_⟩
                      have hB557 := hB541.ext hx555
                      have hB558 := hB542.ext hx555
                      have hF559 := hF543.ext hx555
                      have hF560 := hF544.ext hx555
                      have hF561 := hx555.e hF545 (Nat.le_refl _)
                      have hF562 := hx555.e hF546 (Nat.le_refl _)
                      have hF563 := hF547.ext hx555
                      have hF564 := hx555.e hF548 (Nat.le_refl _)
                      have hF565 := hx555.e hF549 (Nat.le_refl _)
                      have hF566 := hF550.ext hx555
                      have hF567 := hO540.ext hx555
                      have hE568 : Below w0.heap.size w0 w554 := hx555.e hE551 (Nat.le_refl _)
                      have hz569 := hE568.le
                      have hs570 := hx555.size
                      refine st_q (v := .bool (decide ((True) ↔ (True)))) (x_eqlB Try.underlying4 rfl rfl) ?_
                      refine st_if (p := (True) ↔ (True)) (x_move rfl) (fun h571 => ?_) (fun h571 => ?_)
                      ·
                        refine st_gq 9 154 rfl rfl (by decide) ?_
                        refine st_q (v := .bool true) (x_move rfl) ?_
                        refine st_gq 9 154 rfl rfl (by decide) ?_
                        refine st_q (v := .slice a133 ((dupR es 0).length) c134) (x_move rfl) ?_
                        refine st_gq 9 154 rfl rfl (by decide) ?_
                        refine st_q (v := .string one) (x_move rfl) ?_
                        refine st_gq 9 154 rfl rfl (by decide) ?_
                        refine st_e (e_buildSlice (cs := [.string one]) (e := 9) (fun _ => by kernel_rfl) ?_)
                        intro w572 hA573
                        have hx574 := hA573.ext
                        have hs575 := hA573.size
                        have hB576 : Blk w572.heap w554.heap.size [.string one] 9 := hA573.new
                        have hB577 := hB557.ext hx574
                        have hB578 := hB558.ext hx574
                        have hF579 := hF559.ext hx574
                        have hF580 := hF560.ext hx574
                        have hF581 := hx574.e hF561 (Nat.le_refl _)
                        have hF582 := hx574.e hF562 (Nat.le_refl _)
                        have hF583 := hF563.ext hx574
                        have hF584 := hx574.e hF564 (Nat.le_refl _)
                        have hF585 := hx574.e hF565 (Nat.le_refl _)
                        have hF586 := hF566.ext hx574
                        have hF587 := hF567.ext hx574
                        have hE588 : Below w0.heap.size w0 w572 := hx574.e hE568 (Nat.le_refl _)
                        have hz589 := hE588.le
                        have hs590 := hx574.size
                        refine st_gq 9 154 rfl rfl (by decide) ?_
                        have hl591 : Src w572.heap (.slice (some ⟨w554.heap.size, 0, none⟩) 1 1) (([one] : List ByteArray) : List _).length 1 (flat enS ([one] : List ByteArray)) := hB576.src1 (k := 1) (m := 1) rfl (by omega)
                        refine st_c (t_call [.slice a133 ((dupR es 0).length) c134, .slice ((some ⟨w554.heap.size, 0, none⟩)) 1 1] T.cf26 rfl rfl) (reach26 (dupR es 0) [one] _ _ _ hF580.src hl591 (fun s hs => by rw [List.mem_singleton] at hs; subst hs; exact h1s) hfe2 (by simp only [List.length_singleton]; omega)) ?_
                        rintro _ w592 ⟨v594, Rc, rfl, hx593, hRc, hO595⟩
                        refine ⟨_, rfl, ?_⟩
                        have hB596 := hB577.ext hx593
                        have hB597 := hB578.ext hx593
                        have hB598 := hB576.ext hx593
                        have hF599 := hF579.ext hx593
                        have hF600 := hF580.ext hx593
                        have hF601 := hx593.e hF581 (Nat.le_refl _)
                        have hF602 := hx593.e hF582 (Nat.le_refl _)
                        have hF603 := hF583.ext hx593
                        have hF604 := hx593.e hF584 (Nat.le_refl _)
                        have hF605 := hx593.e hF585 (Nat.le_refl _)
                        have hF606 := hF586.ext hx593
                        have hF607 := hF587.ext hx593
                        have hE608 : Below w0.heap.size w0 w592 := hx593.e hE588 (Nat.le_refl _)
                        have hz609 := hE608.le
                        have hs610 := hx593.size
                        refine st_gq 9 154 rfl rfl (by decide) ?_
                        refine st_q (v := .string two) (x_move rfl) ?_
                        refine st_gq 9 154 rfl rfl (by decide) ?_
                        refine st_c (t_call [v594, .string two] T.cf27 rfl rfl) (among27 Rc two _ _ hO595.src) ?_
                        rintro _ w611 ⟨e613, hx612⟩
                        rw [reach_more hme hRa hRc, hin] at e613
                        subst e613
                        refine ⟨_, rfl, ?_⟩
                        have hB614 := hB596.ext hx612
                        have hB615 := hB597.ext hx612
                        have hB616 := hB598.ext hx612
                        have hF617 := hF599.ext hx612
                        have hF618 := hF600.ext hx612
                        have hF619 := hx612.e hF601 (Nat.le_refl _)
                        have hF620 := hx612.e hF602 (Nat.le_refl _)
                        have hF621 := hF603.ext hx612
                        have hF622 := hx612.e hF604 (Nat.le_refl _)
                        have hF623 := hx612.e hF605 (Nat.le_refl _)
                        have hF624 := hF606.ext hx612
                        have hF625 := hF607.ext hx612
                        have hF626 := hO595.ext hx612
                        have hE627 : Below w0.heap.size w0 w611 := hx612.e hE608 (Nat.le_refl _)
                        have hz628 := hE627.le
                        have hs629 := hx612.size
                        refine st_gq 9 154 rfl rfl (by decide) ?_
                        refine st_q (v := .bool (decide ((True) ↔ (True)))) (x_eqlB Try.underlying4 rfl rfl) ?_
                        refine st_q (v := .bool (decide ((True) ↔ (True)))) (x_pickT rfl rfl) ?_
                        refine st_q (v := .bool (decide ((True) ↔ (True)))) (x_assign rfl) ?_
                        refine st_nil ?_
                        refine kn500 _ _ ?_
                        refine ret ?_
                        refine leave1 (P := Try.prog) (fn := Try.f7) (t := 8) (v := .bool (decide ((True) ↔ (True)))) rfl rfl ?_
                        exact ⟨by rw [decide_eq_true Iff.rfl], hE627⟩
                      ·
                        exact absurd h571 (not_not_intro Iff.rfl)
                    ·
                      rw [hin] at e486
                      subst e486
                      refine ⟨_, rfl, ?_⟩
                      have hB630 := hB473.ext hx485
                      have hF631 := hF474.ext hx485
                      have hF632 := hF475.ext hx485
                      have hF633 := hx485.e hF476 (Nat.le_refl _)
                      have hF634 := hx485.e hF477 (Nat.le_refl _)
                      have hF635 := hF478.ext hx485
                      have hF636 := hx485.e hF479 (Nat.le_refl _)
                      have hF637 := hx485.e hF480 (Nat.le_refl _)
                      have hF638 := hO472.ext hx485
                      have hE639 : Below w0.heap.size w0 w484 := hx485.e hE481 (Nat.le_refl _)
                      have hz640 := hE639.le
                      have hs641 := hx485.size
                      refine st_q (v := .bool false) (x_assign rfl) ?_
                      refine st_nil ?_
                      refine kn450 _ _ ?_
                      refine seqK fun Q642 kn643 kr644 ke645 => ?_
                      refine region ?_
                      refine st_q (v := .bool false) (x_move rfl) ?_
                      refine st_q (v := .slice b es.length cb) (x_move rfl) ?_
                      refine st_c (t_call [.slice b es.length cb] T.cf28 rfl rfl) (turned28 es _ _ (hb.below hE639) (by omega)) ?_
                      rintro _ w646 ⟨v648, rfl, hx647, hO649⟩
                      refine ⟨_, rfl, ?_⟩
                      have hB650 := hB630.ext hx647
                      have hF651 := hF631.ext hx647
                      have hF652 := hF632.ext hx647
                      have hF653 := hx647.e hF633 (Nat.le_refl _)
                      have hF654 := hx647.e hF634 (Nat.le_refl _)
                      have hF655 := hF635.ext hx647
                      have hF656 := hx647.e hF636 (Nat.le_refl _)
                      have hF657 := hx647.e hF637 (Nat.le_refl _)
                      have hF658 := hF638.ext hx647
                      have hE659 : Below w0.heap.size w0 w646 := hx647.e hE639 (Nat.le_refl _)
                      have hz660 := hE659.le
                      have hs661 := hx647.size
                      refine st_q (v := .string two) (x_move rfl) ?_
                      refine st_e (e_buildSlice (cs := [.string two]) (e := 9) (fun _ => by kernel_rfl) ?_)
                      intro w662 hA663
                      have hx664 := hA663.ext
                      have hs665 := hA663.size
                      have hB666 : Blk w662.heap w646.heap.size [.string two] 9 := hA663.new
                      have hB667 := hB650.ext hx664
                      have hF668 := hF651.ext hx664
                      have hF669 := hF652.ext hx664
                      have hF670 := hx664.e hF653 (Nat.le_refl _)
                      have hF671 := hx664.e hF654 (Nat.le_refl _)
                      have hF672 := hO649.ext hx664
                      have hF673 := hx664.e hF656 (Nat.le_refl _)
                      have hF674 := hx664.e hF657 (Nat.le_refl _)
                      have hF675 := hF658.ext hx664
                      have hE676 : Below w0.heap.size w0 w662 := hx664.e hE659 (Nat.le_refl _)
                      have hz677 := hE676.le
                      have hs678 := hx664.size
                      have hl679 : Src w662.heap (.slice (some ⟨w646.heap.size, 0, none⟩) 1 1) (([two] : List ByteArray) : List _).length 1 (flat enS ([two] : List ByteArray)) := hB666.src1 (k := 1) (m := 1) rfl (by omega)
                      refine st_c (t_call [v648, .slice ((some ⟨w646.heap.size, 0, none⟩)) 1 1] T.cf26 rfl rfl) (reach26 (es.map turn) [two] _ _ _ (Own.len hF672 (by simp)).src hl679 (fun s hs => by rw [List.mem_singleton] at hs; subst hs; exact h2s) hft (by simp only [List.length_singleton, List.length_map]; omega)) ?_
                      rintro _ w680 ⟨v682, Rb, rfl, hx681, hRb, hO683⟩
                      refine ⟨_, rfl, ?_⟩
                      have hB684 := hB667.ext hx681
                      have hB685 := hB666.ext hx681
                      have hF686 := hF668.ext hx681
                      have hF687 := hF669.ext hx681
                      have hF688 := hx681.e hF670 (Nat.le_refl _)
                      have hF689 := hx681.e hF671 (Nat.le_refl _)
                      have hF690 := hF672.ext hx681
                      have hF691 := hx681.e hF673 (Nat.le_refl _)
                      have hF692 := hx681.e hF674 (Nat.le_refl _)
                      have hF693 := hF675.ext hx681
                      have hE694 : Below w0.heap.size w0 w680 := hx681.e hE676 (Nat.le_refl _)
                      have hz695 := hE694.le
                      have hs696 := hx681.size
                      refine st_q (v := .string one) (x_move rfl) ?_
                      refine st_c (t_call [v682, .string one] T.cf27 rfl rfl) (among27 Rb one _ _ hO683.src) ?_
                      rintro _ w697 ⟨e699, hx698⟩
                      rw [reach_back hRa hRb, hin] at e699
                      subst e699
                      refine ⟨_, rfl, ?_⟩
                      have hB700 := hB684.ext hx698
                      have hB701 := hB685.ext hx698
                      have hF702 := hF686.ext hx698
                      have hF703 := hF687.ext hx698
                      have hF704 := hx698.e hF688 (Nat.le_refl _)
                      have hF705 := hx698.e hF689 (Nat.le_refl _)
                      have hF706 := hF690.ext hx698
                      have hF707 := hx698.e hF691 (Nat.le_refl _)
                      have hF708 := hx698.e hF692 (Nat.le_refl _)
                      have hF709 := hF693.ext hx698
                      have hF710 := hO683.ext hx698
                      have hE711 : Below w0.heap.size w0 w697 := hx698.e hE694 (Nat.le_refl _)
                      have hz712 := hE711.le
                      have hs713 := hx698.size
                      refine st_q (v := .bool (decide ((False) ↔ (False)))) (x_eqlB Try.underlying4 rfl rfl) ?_
                      refine st_if (p := (False) ↔ (False)) (x_move rfl) (fun h714 => ?_) (fun h714 => ?_)
                      ·
                        refine st_gq 9 154 rfl rfl (by decide) ?_
                        refine st_q (v := .bool false) (x_move rfl) ?_
                        refine st_gq 9 154 rfl rfl (by decide) ?_
                        refine st_q (v := .slice a133 ((dupR es 0).length) c134) (x_move rfl) ?_
                        refine st_gq 9 154 rfl rfl (by decide) ?_
                        refine st_q (v := .string one) (x_move rfl) ?_
                        refine st_gq 9 154 rfl rfl (by decide) ?_
                        refine st_e (e_buildSlice (cs := [.string one]) (e := 9) (fun _ => by kernel_rfl) ?_)
                        intro w715 hA716
                        have hx717 := hA716.ext
                        have hs718 := hA716.size
                        have hB719 : Blk w715.heap w697.heap.size [.string one] 9 := hA716.new
                        have hB720 := hB700.ext hx717
                        have hB721 := hB701.ext hx717
                        have hF722 := hF702.ext hx717
                        have hF723 := hF703.ext hx717
                        have hF724 := hx717.e hF704 (Nat.le_refl _)
                        have hF725 := hx717.e hF705 (Nat.le_refl _)
                        have hF726 := hF706.ext hx717
                        have hF727 := hx717.e hF707 (Nat.le_refl _)
                        have hF728 := hx717.e hF708 (Nat.le_refl _)
                        have hF729 := hF709.ext hx717
                        have hF730 := hF710.ext hx717
                        have hE731 : Below w0.heap.size w0 w715 := hx717.e hE711 (Nat.le_refl _)
                        have hz732 := hE731.le
                        have hs733 := hx717.size
                        refine st_gq 9 154 rfl rfl (by decide) ?_
                        have hl734 : Src w715.heap (.slice (some ⟨w697.heap.size, 0, none⟩) 1 1) (([one] : List ByteArray) : List _).length 1 (flat enS ([one] : List ByteArray)) := hB719.src1 (k := 1) (m := 1) rfl (by omega)
                        refine st_c (t_call [.slice a133 ((dupR es 0).length) c134, .slice ((some ⟨w697.heap.size, 0, none⟩)) 1 1] T.cf26 rfl rfl) (reach26 (dupR es 0) [one] _ _ _ hF723.src hl734 (fun s hs => by rw [List.mem_singleton] at hs; subst hs; exact h1s) hfe2 (by simp only [List.length_singleton]; omega)) ?_
                        rintro _ w735 ⟨v737, Rc, rfl, hx736, hRc, hO738⟩
                        refine ⟨_, rfl, ?_⟩
                        have hB739 := hB720.ext hx736
                        have hB740 := hB721.ext hx736
                        have hB741 := hB719.ext hx736
                        have hF742 := hF722.ext hx736
                        have hF743 := hF723.ext hx736
                        have hF744 := hx736.e hF724 (Nat.le_refl _)
                        have hF745 := hx736.e hF725 (Nat.le_refl _)
                        have hF746 := hF726.ext hx736
                        have hF747 := hx736.e hF727 (Nat.le_refl _)
                        have hF748 := hx736.e hF728 (Nat.le_refl _)
                        have hF749 := hF729.ext hx736
                        have hF750 := hF730.ext hx736
                        have hE751 : Below w0.heap.size w0 w735 := hx736.e hE731 (Nat.le_refl _)
                        have hz752 := hE751.le
                        have hs753 := hx736.size
                        refine st_gq 9 154 rfl rfl (by decide) ?_
                        refine st_q (v := .string two) (x_move rfl) ?_
                        refine st_gq 9 154 rfl rfl (by decide) ?_
                        refine st_c (t_call [v737, .string two] T.cf27 rfl rfl) (among27 Rc two _ _ hO738.src) ?_
                        rintro _ w754 ⟨e756, hx755⟩
                        rw [reach_more hme hRa hRc, hin] at e756
                        subst e756
                        refine ⟨_, rfl, ?_⟩
                        have hB757 := hB739.ext hx755
                        have hB758 := hB740.ext hx755
                        have hB759 := hB741.ext hx755
                        have hF760 := hF742.ext hx755
                        have hF761 := hF743.ext hx755
                        have hF762 := hx755.e hF744 (Nat.le_refl _)
                        have hF763 := hx755.e hF745 (Nat.le_refl _)
                        have hF764 := hF746.ext hx755
                        have hF765 := hx755.e hF747 (Nat.le_refl _)
                        have hF766 := hx755.e hF748 (Nat.le_refl _)
                        have hF767 := hF749.ext hx755
                        have hF768 := hF750.ext hx755
                        have hF769 := hO738.ext hx755
                        have hE770 : Below w0.heap.size w0 w754 := hx755.e hE751 (Nat.le_refl _)
                        have hz771 := hE770.le
                        have hs772 := hx755.size
                        refine st_gq 9 154 rfl rfl (by decide) ?_
                        refine st_q (v := .bool (decide ((False) ↔ (False)))) (x_eqlB Try.underlying4 rfl rfl) ?_
                        refine st_q (v := .bool (decide ((False) ↔ (False)))) (x_pickT rfl rfl) ?_
                        refine st_q (v := .bool (decide ((False) ↔ (False)))) (x_assign rfl) ?_
                        refine st_nil ?_
                        refine kn643 _ _ ?_
                        refine ret ?_
                        refine leave1 (P := Try.prog) (fn := Try.f7) (t := 8) (v := .bool (decide ((False) ↔ (False)))) rfl rfl ?_
                        exact ⟨by rw [decide_eq_true Iff.rfl], hE770⟩
                      ·
                        exact absurd h714 (not_not_intro Iff.rfl)
          ·
            refine ⟨_, rfl, ?_⟩
            have hF773 := hC126.ext hx203
            have hF774 := hO2.ext hx203
            have hE775 : Below w0.heap.size w0 w202 := hx203.e hx127 (Nat.le_refl _)
            have hz776 := hE775.le
            have hs777 := hx203.size
            have hbnd : ∀ s, s ∈ (nodesL xs es) → lev s ≤ (nodesL xs es).length := fun s hs => hIs.bnd (fun e he => ⟨nodesL_mem.2 (.inr ⟨e, he, .inl rfl⟩), nodesL_mem.2 (.inr ⟨e, he, .inr rfl⟩)⟩) hs
            have hnl := nodesL_len xs es
            have hrkl := ranksOf_len (nodesL xs es) lev
            obtain ⟨ar, cr, rfl, _, _⟩ := hO205.src.form
            refine st_q (v := .tuple #[.slice ar ((nodesL xs es).length) cr, .int .i64 ((0 : Nat) : Int)]) (x_move rfl) ?_
            refine st_q (v := .slice ar ((nodesL xs es).length) cr) (x_extract rfl rfl) ?_
            refine st_q (v := .int .i64 ((0 : Nat) : Int)) (x_extract rfl rfl) ?_
            refine st_q (v := .slice ar ((nodesL xs es).length) cr) (x_assign rfl) ?_
            refine st_q (v := .int .i64 ((0 : Nat) : Int)) (x_assign rfl) ?_
            refine st_nil ?_
            refine kn199 _ _ ?_
            refine seqK fun Q778 kn779 kr780 ke781 => ?_
            refine region ?_
            refine st_q (v := .slice a44 ((dupR xs 0).length) c45) (x_move rfl) ?_
            refine st_q (v := .slice a133 ((dupR es 0).length) c134) (x_move rfl) ?_
            refine st_c (t_call [.slice a44 ((dupR xs 0).length) c45, .slice a133 ((dupR es 0).length) c134] T.cf16 rfl rfl) (levels16 (dupR xs 0) (dupR es 0) _ _ _ hF773.src hF774.src hfx2 hfe2 (by omega)) ?_
            rintro _ w782 (⟨hn786, _⟩ | ⟨_, v784, lev2, rfl, hx783, hIs2, hO785⟩)
            · exact absurd ((NegLoop.congr hme).1 hn786) hn206
            refine ⟨_, rfl, ?_⟩
            have hF787 := hF773.ext hx783
            have hF788 := hF774.ext hx783
            have hF789 := hO205.ext hx783
            have hE790 : Below w0.heap.size w0 w782 := hx783.e hE775 (Nat.le_refl _)
            have hz791 := hE790.le
            have hs792 := hx783.size
            have eRK : (ranksOf (nodesL xs es) lev) = (ranksOf (nodesL (dupR xs 0) (dupR es 0)) lev2) := levels_same hme hmx hIs hIs2
            have hrkl2 := ranksOf_len (nodesL (dupR xs 0) (dupR es 0)) lev2
            obtain ⟨a2r, c2r, rfl, _, _⟩ := hO785.src.form
            refine st_q (v := .tuple #[.slice a2r ((nodesL (dupR xs 0) (dupR es 0)).length) c2r, .int .i64 ((0 : Nat) : Int)]) (x_move rfl) ?_
            refine st_q (v := .slice a2r ((nodesL (dupR xs 0) (dupR es 0)).length) c2r) (x_extract rfl rfl) ?_
            refine st_q (v := .int .i64 ((0 : Nat) : Int)) (x_extract rfl rfl) ?_
            refine st_q (v := .slice a2r ((nodesL (dupR xs 0) (dupR es 0)).length) c2r) (x_assign rfl) ?_
            refine st_q (v := .int .i64 ((0 : Nat) : Int)) (x_assign rfl) ?_
            refine st_nil ?_
            refine kn779 _ _ ?_
            refine seqK fun Q793 kn794 kr795 ke796 => ?_
            refine region ?_
            refine st_q (v := .slice a xs.length ca) (x_move rfl) ?_
            refine st_q (v := .slice b es.length cb) (x_move rfl) ?_
            refine st_c (t_call [.slice a xs.length ca, .slice b es.length cb] T.cf11 rfl rfl) (parts11 xs es _ _ _ (ha.below hE790) (hb.below hE790) hfx hfe hn) ?_
            rintro _ w797 ⟨v799, us1, P, rfl, hx798, hG1, hO800, hPI1⟩
            refine ⟨_, rfl, ?_⟩
            have hF801 := hF787.ext hx798
            have hF802 := hF788.ext hx798
            have hF803 := hF789.ext hx798
            have hF804 := hO785.ext hx798
            have hE805 : Below w0.heap.size w0 w797 := hx798.e hE790 (Nat.le_refl _)
            have hz806 := hE805.le
            have hs807 := hx798.size
            have hRI1 : RowsIn w797.heap v799 us1 P := RowsIn.of hO800 hPI1
            have hE1_ : Ext w797 w797 := Below.refl _ _
            have hvl1 := hRI1.len
            obtain ⟨pa1, pc1, rfl, _, _⟩ := hRI1.src.form
            refine st_q (v := .slice a44 ((dupR xs 0).length) c45) (x_move rfl) ?_
            refine st_q (v := .slice a133 ((dupR es 0).length) c134) (x_move rfl) ?_
            refine st_c (t_call [.slice a44 ((dupR xs 0).length) c45, .slice a133 ((dupR es 0).length) c134] T.cf11 rfl rfl) (parts11 (dupR xs 0) (dupR es 0) _ _ _ hF801.src hF802.src hfx2 hfe2 (by omega)) ?_
            rintro _ w808 ⟨v810, us2, Q, rfl, hx809, hG2, hO811, hPI2⟩
            refine ⟨_, rfl, ?_⟩
            have hF812 := hF801.ext hx809
            have hF813 := hF802.ext hx809
            have hF814 := hF803.ext hx809
            have hF815 := hF804.ext hx809
            have hF816 := hx809.e hE1_ (Nat.le_refl _)
            have hE817 : Below w0.heap.size w0 w808 := hx809.e hE805 (Nat.le_refl _)
            have hz818 := hE817.le
            have hs819 := hx809.size
            have hRI2 : RowsIn w808.heap v810 us2 Q := RowsIn.of hO811 hPI2
            have hE2_ : Ext w808 w808 := Below.refl _ _
            have hvl2 := hRI2.len
            obtain ⟨pa2, pc2, rfl, _, _⟩ := hRI2.src.form
            refine st_q (v := .slice a xs.length ca) (x_move rfl) ?_
            refine st_q (v := .slice b es.length cb) (x_move rfl) ?_
            refine st_c (t_call [.slice b es.length cb] T.cf28 rfl rfl) (turned28 es _ _ (hb.below hE817) (by omega)) ?_
            rintro _ w820 ⟨v822, rfl, hx821, hO823⟩
            refine ⟨_, rfl, ?_⟩
            have hF824 := hF812.ext hx821
            have hF825 := hF813.ext hx821
            have hF826 := hF814.ext hx821
            have hF827 := hF815.ext hx821
            have hF828 := hx821.e hF816 (Nat.le_refl _)
            have hF829 := hx821.e hE2_ (Nat.le_refl _)
            have hE830 : Below w0.heap.size w0 w820 := hx821.e hE817 (Nat.le_refl _)
            have hz831 := hE830.le
            have hs832 := hx821.size
            refine st_c (t_call [.slice a xs.length ca, v822] T.cf11 rfl rfl) (parts11 xs (es.map turn) _ _ _ (ha.below hE830) (Own.len hO823 (by simp)).src hfx hft (by rw [List.length_map]; exact hn)) ?_
            rintro _ w833 ⟨v835, us3, B, rfl, hx834, hG3, hO836, hPI3⟩
            refine ⟨_, rfl, ?_⟩
            have hF837 := hF824.ext hx834
            have hF838 := hF825.ext hx834
            have hF839 := hF826.ext hx834
            have hF840 := hF827.ext hx834
            have hF841 := hx834.e hF828 (Nat.le_refl _)
            have hF842 := hx834.e hF829 (Nat.le_refl _)
            have hF843 := hO823.ext hx834
            have hE844 : Below w0.heap.size w0 w833 := hx834.e hE830 (Nat.le_refl _)
            have hz845 := hE844.le
            have hs846 := hx834.size
            have hRI3 : RowsIn w833.heap v835 us3 B := RowsIn.of hO836 hPI3
            have hE3_ : Ext w833 w833 := Below.refl _ _
            have hvl3 := hRI3.len
            obtain ⟨pa3, pc3, rfl, _, _⟩ := hRI3.src.form
            have ePQ : P = Q := parts_same hme hmx hG1 hG2
            have hBk := turned_parts hG1 hG3
            refine st_q (v := .slice pa1 P.length pc1) (x_assign rfl) ?_
            refine st_q (v := .slice pa2 Q.length pc2) (x_assign rfl) ?_
            refine st_q (v := .slice pa3 B.length pc3) (x_assign rfl) ?_
            refine st_nil ?_
            refine kn794 _ _ ?_
            refine seqK fun Q847 kn848 kr849 ke850 => ?_
            refine seqK fun Q851 kn852 kr853 ke854 => ?_
            refine region ?_
            refine st_q (v := .slice ar ((nodesL xs es).length) cr) (x_move rfl) ?_
            refine st_q (v := .slice a2r ((nodesL (dupR xs 0) (dupR es 0)).length) c2r) (x_move rfl) ?_
            refine st_c (t_call [.slice ar ((nodesL xs es).length) cr, .slice a2r ((nodesL (dupR xs 0) (dupR es 0)).length) c2r] T.cf20 rfl rfl) (sameRanks20 (ranksOf (nodesL xs es) lev) (ranksOf (nodesL (dupR xs 0) (dupR es 0)) lev2) _ _ _ (Own.len hF839 hrkl.symm).src (Own.len hF840 hrkl2.symm).src) ?_
            rintro _ w855 ⟨e857, hx856⟩
            rw [decide_eq_true eRK] at e857
            subst e857
            refine ⟨_, rfl, ?_⟩
            have hF858 := hF837.ext hx856
            have hF859 := hF838.ext hx856
            have hF860 := hF839.ext hx856
            have hF861 := hF840.ext hx856
            have hF862 := hx856.e hF841 (Nat.le_refl _)
            have hF863 := hx856.e hF842 (Nat.le_refl _)
            have hF864 := hF843.ext hx856
            have hF865 := hx856.e hE3_ (Nat.le_refl _)
            have hE866 : Below w0.heap.size w0 w855 := hx856.e hE844 (Nat.le_refl _)
            have hz867 := hE866.le
            have hs868 := hx856.size
            refine st_q (v := .bool false) (x_notB (b := true) rfl) ?_
            refine st_q (v := .bool false) (x_move rfl) ?_
            refine st_gq 4 87 rfl rfl (by decide) ?_
            refine st_q (v := .int .i64 ((0 : Nat) : Int)) (x_move rfl) ?_
            refine st_gq 4 87 rfl rfl (by decide) ?_
            refine st_q (v := .int .i64 ((0 : Nat) : Int)) (x_move rfl) ?_
            refine st_gq 4 87 rfl rfl (by decide) ?_
            refine st_q (v := .bool (decide (0 ≠ 0))) (x_neqN rfl rfl) ?_
            refine st_q (v := .bool (decide (0 ≠ 0))) (x_pickF rfl rfl) ?_
            refine st_if (p := 0 ≠ 0) (x_move rfl) (fun h869 => ?_) (fun h869 => ?_)
            ·
              exact absurd h869 (not_not_intro rfl)
            ·
              refine st_gq 9 92 rfl rfl (by decide) ?_
              refine st_q (v := .slice pa1 P.length pc1) (x_move rfl) ?_
              refine st_gq 9 92 rfl rfl (by decide) ?_
              refine st_q (v := .slice pa2 Q.length pc2) (x_move rfl) ?_
              refine st_gq 9 92 rfl rfl (by decide) ?_
              refine st_c (t_call [.slice pa1 P.length pc1, .slice pa2 Q.length pc2] T.cf13 rfl rfl) (sameParts13 P Q us1 us2 _ _ _ (RowsIn.below hRI1 hF862) (RowsIn.below hRI2 hF863)) ?_
              rintro _ w870 ⟨e872, hx871⟩
              rw [decide_eq_true ePQ] at e872
              subst e872
              refine ⟨_, rfl, ?_⟩
              have hF873 := hF858.ext hx871
              have hF874 := hF859.ext hx871
              have hF875 := hF860.ext hx871
              have hF876 := hF861.ext hx871
              have hF877 := hx871.e hF862 (Nat.le_refl _)
              have hF878 := hx871.e hF863 (Nat.le_refl _)
              have hF879 := hF864.ext hx871
              have hF880 := hx871.e hF865 (Nat.le_refl _)
              have hE881 : Below w0.heap.size w0 w870 := hx871.e hE866 (Nat.le_refl _)
              have hz882 := hE881.le
              have hs883 := hx871.size
              refine st_gq 9 92 rfl rfl (by decide) ?_
              refine st_q (v := .bool false) (x_notB (b := true) rfl) ?_
              refine st_q (v := .bool false) (x_pickF rfl rfl) ?_
              refine st_q (v := .bool false) (x_move rfl) ?_
              refine st_gq 15 98 rfl rfl (by decide) ?_
              refine st_q (v := .slice pa3 B.length pc3) (x_move rfl) ?_
              refine st_gq 15 98 rfl rfl (by decide) ?_
              refine st_q (v := .int .i64 ((B.length : Nat) : Int)) (x_lenSl rfl Try.underlying26 rfl) ?_
              refine st_gq 15 98 rfl rfl (by decide) ?_
              refine st_q (v := .slice pa1 P.length pc1) (x_move rfl) ?_
              refine st_gq 15 98 rfl rfl (by decide) ?_
              refine st_q (v := .int .i64 ((P.length : Nat) : Int)) (x_lenSl rfl Try.underlying26 rfl) ?_
              refine st_gq 15 98 rfl rfl (by decide) ?_
              refine st_q (v := .bool (decide (B.length ≠ P.length))) (x_neqN rfl rfl) ?_
              refine st_q (v := .bool (decide (B.length ≠ P.length))) (x_pickF rfl rfl) ?_
              refine st_nil ?_
              refine kn852 _ _ ?_
              refine cnd (p := B.length ≠ P.length) rfl (fun h884 => ?_) (fun h884 => ?_)
              ·
                exact absurd h884 (not_not_intro hBk.len)
              ·
                refine skip ?_
                refine kn848 _ _ ?_
                refine seqK fun Q885 kn886 kr887 ke888 => ?_
                refine seqK fun Q889 kn890 kr891 ke892 => ?_
                refine region ?_
                refine st_q (v := .int .i64 ((0 : Nat) : Int)) (x_assign rfl) ?_
                refine st_nil ?_
                refine kn890 _ _ ?_
                refine blockK fun Q893 kn894 kr895 kx896 kb897 => ?_
                refine loopK (α := Nat) (fun x => [(1, .slice b es.length cb), (2, .string one), (3, .string two), (11, .slice a133 ((dupR es 0).length) c134), (17, .slice pa1 P.length pc1), (19, .slice pa3 B.length pc3), (20, .int .i64 ((x : Nat) : Int))]) (fun x w898 => Ext w870 w898 ∧ x ≤ P.length) (fun x => P.length - x) (0) ⟨rfl, rfl, rfl, rfl, rfl, rfl, rfl, trivial⟩ ?_ ?_
                ·
                  refine ⟨Below.refl _ _, ?_⟩
                  try dsimp only
                  exact Nat.zero_le _
                ·
                  rintro τ899 i w900 ⟨hx901, hi⟩
                  try dsimp only at hi
                  have hF902 := hF873.ext hx901
                  have hF903 := hF874.ext hx901
                  have hF904 := hF875.ext hx901
                  have hF905 := hF876.ext hx901
                  have hF906 := hx901.e hF877 (Nat.le_refl _)
                  have hF907 := hx901.e hF878 (Nat.le_refl _)
                  have hF908 := hF879.ext hx901
                  have hF909 := hx901.e hF880 (Nat.le_refl _)
                  have hE910 : Below w0.heap.size w0 w900 := hx901.e hE881 (Nat.le_refl _)
                  have hz911 := hE910.le
                  have hs912 := hx901.size
                  intro Q913 kn914 kr915 ke916
                  refine seqK fun Q917 kn918 kr919 ke920 => ?_
                  refine seqK fun Q921 kn922 kr923 ke924 => ?_
                  refine region ?_
                  refine st_q (v := .int .i64 ((i : Nat) : Int)) (x_move rfl) ?_
                  refine st_q (v := .slice pa1 P.length pc1) (x_move rfl) ?_
                  refine st_q (v := .int .i64 ((P.length : Nat) : Int)) (x_lenSl rfl Try.underlying26 rfl) ?_
                  refine st_q (v := .bool (decide (i < P.length))) (x_lssN rfl rfl) ?_
                  refine st_nil ?_
                  refine kn922 _ _ ?_
                  refine cnd (p := i < P.length) rfl (fun h925 => ?_) (fun h925 => ?_)
                  ·
                    refine skip ?_
                    refine kn918 _ _ ?_
                    refine seqK fun Q926 kn927 kr928 ke929 => ?_
                    refine blockK fun Q930 kn931 kr932 kx933 kb934 => ?_
                    refine seqK fun Q935 kn936 kr937 ke938 => ?_
                    refine seqK fun Q939 kn940 kr941 ke942 => ?_
                    refine region ?_
                    have hbr := hBk.row i (by omega)
                    have hb0 := hbr.1
                    have hb1 := hbr.2.1
                    have hb2 := hbr.2.2
                    refine st_q (v := .slice pa1 P.length pc1) (x_move rfl) ?_
                    refine st_q (v := .int .i64 ((i : Nat) : Int)) (x_move rfl) ?_
                    obtain ⟨b943, o944, ha945, hc946⟩ := hRI1.src.at (by omega)
                    refine st_q (v := .pointer (some ⟨b943, o944 + i * 1, none⟩)) (x_index' T.sl26 rfl ha945 rfl (by omega)) ?_
                    obtain ⟨q947, c948, e949, hs950⟩ := hRI1.row i (by omega)
                    have hcp951 := hs950.capl
                    refine st_q (v := .slice q947 ((el P i).length) c948) (x_load1 T.na22 rfl (Cells.conv ((hc946.below hF906).elem enV_len (i := i) (by omega)) e949)) ?_
                    refine st_q (v := .int .i64 (((el P i).length : Nat) : Int)) (x_lenSl rfl Try.underlying22 rfl) ?_
                    refine st_q (v := .bool (decide (((el P i).length) = 0))) (x_eqlN rfl rfl) ?_
                    refine st_nil ?_
                    refine kn940 _ _ ?_
                    refine cnd (p := ((el P i).length) = 0) rfl (fun h952 => ?_) (fun h952 => ?_)
                    ·
                      exact absurd h952 (by omega)
                    ·
                      refine skip ?_
                      refine kn936 _ _ ?_
                      refine seqK fun Q953 kn954 kr955 ke956 => ?_
                      refine region ?_
                      refine st_q (v := .slice pa3 B.length pc3) (x_move rfl) ?_
                      refine st_q (v := .slice pa1 P.length pc1) (x_move rfl) ?_
                      refine st_q (v := .int .i64 ((i : Nat) : Int)) (x_move rfl) ?_
                      refine st_q (v := .pointer (some ⟨b943, o944 + i * 1, none⟩)) (x_index' T.sl26 rfl ha945 rfl (by omega)) ?_
                      obtain ⟨q957, c958, e959, hs960⟩ := hRI1.row i (by omega)
                      have hcp961 := hs960.capl
                      refine st_q (v := .slice q957 ((el P i).length) c958) (x_load1 T.na22 rfl (Cells.conv ((hc946.below hF906).elem enV_len (i := i) (by omega)) e959)) ?_
                      obtain ⟨b962, o963, ha964, hc965⟩ := hs960.at (by omega)
                      refine st_q (v := .pointer (some ⟨b962, o963 + 0 * 1, none⟩)) (x_index' T.sl22 rfl ha964 rfl (by omega)) ?_
                      refine st_q (v := .string (el (el P i) 0)) (x_load1 T.na9 rfl ((hc965.below hF906).elem enS_len (i := 0) (by omega))) ?_
                      refine st_c (t_call [.slice pa3 B.length pc3, .string (el (el P i) 0)] T.cf23 rfl rfl) (part23 B us3 (el (el P i) 0) _ _ (RowsIn.below hRI3 hF909)) ?_
                      rintro _ w966 ⟨e968, hx967⟩
                      rw [prt_pos hb1] at e968
                      subst e968
                      refine ⟨_, rfl, ?_⟩
                      have hF969 := hF902.ext hx967
                      have hF970 := hF903.ext hx967
                      have hF971 := hF904.ext hx967
                      have hF972 := hF905.ext hx967
                      have hF973 := hx967.e hF906 (Nat.le_refl _)
                      have hF974 := hx967.e hF907 (Nat.le_refl _)
                      have hF975 := hF908.ext hx967
                      have hF976 := hx967.e hF909 (Nat.le_refl _)
                      have hF977 := hx967.e hx901 (Nat.le_refl _)
                      have hE978 : Below w0.heap.size w0 w966 := hx967.e hE910 (Nat.le_refl _)
                      have hz979 := hE978.le
                      have hs980 := hx967.size
                      refine st_q (v := .int .i64 (((pos B (el (el P i) 0)) : Nat) : Int)) (x_assign rfl) ?_
                      refine st_nil ?_
                      refine kn954 _ _ ?_
                      refine seqK fun Q981 kn982 kr983 ke984 => ?_
                      refine regionD1 [6, 10] [0, 1, 2, 3, 4, 5, 6, 7, 8, 9, 10, 12, 13] (.one 0 (.one 1 (.one 2 (.one 3 (.one 4 (.one 5 (.one 6 (.one 7 (.one 8 (.one 9 (.one 10 (.one 11 (.one 12 (.one 13 .done)))))))))))))) (by kernel_rfl) (by kernel_rfl) ?_
                      intro w985 hx986 hs987
                      have hF988 := hF969.ext hx986
                      have hF989 := hF970.ext hx986
                      have hF990 := hF971.ext hx986
                      have hF991 := hF972.ext hx986
                      have hF992 := hx986.e hF973 (Nat.le_refl _)
                      have hF993 := hx986.e hF974 (Nat.le_refl _)
                      have hF994 := hF975.ext hx986
                      have hF995 := hx986.e hF976 (Nat.le_refl _)
                      have hF996 := hx986.e hF977 (Nat.le_refl _)
                      have hE997 : Below w0.heap.size w0 w985 := hx986.e hE978 (Nat.le_refl _)
                      have hz998 := hE997.le
                      have hs999 := hx986.size
                      have hS1000 : Ext w985 w985 := Below.refl _ _
                      refine d_q (v := .int .i64 (((pos B (el (el P i) 0)) : Nat) : Int)) rfl rfl (fun _ => x_move rfl) ?_
                      refine d_q (v := .bool (decide (((pos B (el (el P i) 0))) < 0))) rfl rfl (fun _ => x_lssN rfl rfl) ?_
                      refine d_if rfl rfl (p := ((pos B (el (el P i) 0))) < 0) (fun _ => x_move rfl) (fun h1001 => ?_) (fun h1001 => ?_)
                      ·
                        exact absurd h1001 (by omega)
                      ·
                        refine d_gq (v := .slice pa3 B.length pc3) (j := 2) (t := 127) rfl rfl rfl rfl (by decide) (fun _ => x_move rfl) ?_
                        refine d_gq (v := .int .i64 (((pos B (el (el P i) 0)) : Nat) : Int)) (j := 2) (t := 127) rfl rfl rfl rfl (by decide) (fun _ => x_move rfl) ?_
                        obtain ⟨b1002, o1003, ha1004, hc1005⟩ := hRI3.src.at (by omega)
                        refine d_gq (v := .pointer (some ⟨b1002, o1003 + ((pos B (el (el P i) 0))) * 1, none⟩)) (j := 2) (t := 127) rfl rfl rfl rfl (by decide) (fun _ => x_index' T.sl26 rfl ha1004 rfl (by omega)) ?_
                        obtain ⟨q1008, c1009, e1010, hs1011⟩ := hRI3.row ((pos B (el (el P i) 0))) (by omega)
                        have hcp1012 := hs1011.capl
                        refine d_gl (v := .slice q1008 ((el B ((pos B (el (el P i) 0)))).length) c1009) (j := 2) (t := 127) rfl rfl rfl rfl rfl (by decide) (fun v1007 hw1006 => x_load1 T.na22 rfl (Cells.conv (((hc1005.below hF995).elem enV_len (i := (pos B (el (el P i) 0))) (by omega)).ext hw1006) e1010)) ?_
                        refine d_gq (v := .slice pa1 P.length pc1) (j := 2) (t := 127) rfl rfl rfl rfl (by decide) (fun _ => x_move rfl) ?_
                        refine d_gq (v := .int .i64 ((i : Nat) : Int)) (j := 2) (t := 127) rfl rfl rfl rfl (by decide) (fun _ => x_move rfl) ?_
                        refine d_gq (v := .pointer (some ⟨b943, o944 + i * 1, none⟩)) (j := 2) (t := 127) rfl rfl rfl rfl (by decide) (fun _ => x_index' T.sl26 rfl ha945 rfl (by omega)) ?_
                        obtain ⟨q1015, c1016, e1017, hs1018⟩ := hRI1.row i (by omega)
                        have hcp1019 := hs1018.capl
                        refine d_gl (v := .slice q1015 ((el P i).length) c1016) (j := 2) (t := 127) rfl rfl rfl rfl rfl (by decide) (fun v1014 hw1013 => x_load1 T.na22 rfl (Cells.conv (((hc946.below hF992).elem enV_len (i := i) (by omega)).ext hw1013) e1017)) ?_
                        refine d_e (by decide) (d_c' rfl (wanted_true (j := 2) (t := 127) rfl rfl (by decide)) (t_call [.slice q1008 ((el B ((pos B (el (el P i) 0)))).length) c1009, .slice q1015 ((el P i).length) c1016] T.cf29 rfl rfl) (same29 (el B (pos B (el (el P i) 0))) (el P i) _ _ _ (hs1011.below hF995) (hs1018.below hF992)) ?_)
                        rintro _ w1020 ⟨e1022, hx1021⟩
                        rw [decide_eq_true hb2] at e1022
                        subst e1022
                        refine ⟨_, rfl, ?_⟩
                        have hF1023 := hF988.ext hx1021
                        have hF1024 := hF989.ext hx1021
                        have hF1025 := hF990.ext hx1021
                        have hF1026 := hF991.ext hx1021
                        have hF1027 := hx1021.e hF992 (Nat.le_refl _)
                        have hF1028 := hx1021.e hF993 (Nat.le_refl _)
                        have hF1029 := hF994.ext hx1021
                        have hF1030 := hx1021.e hF995 (Nat.le_refl _)
                        have hF1031 := hx1021.e hF996 (Nat.le_refl _)
                        have hE1032 : Below w0.heap.size w0 w1020 := hx1021.e hE997 (Nat.le_refl _)
                        have hz1033 := hE1032.le
                        have hs1034 := hx1021.size
                        have hS1035 := hS1000.trans (hx1021.mono hS1000.size)
                        refine ⟨fun _ => hS1035, ?_⟩
                        refine d_gq (v := .bool false) (j := 2) (t := 127) rfl rfl rfl rfl (by decide) (fun _ => x_notB (b := true) rfl) ?_
                        refine d_q (v := .bool false) rfl rfl (fun _ => x_pickF rfl rfl) ?_
                        refine d_done ?_
                        refine kn982 _ _ ?_
                        refine cndF rfl ?_
                        refine skip ?_
                        refine kn931 _ _ ?_
                        refine kn927 _ _ ?_
                        refine region ?_
                        refine st_q (v := .int .i64 ((i : Nat) : Int)) (x_move rfl) ?_
                        refine st_q (v := .int .i64 (((i + 1) : Nat) : Int)) (x_addN rfl rfl (by omega)) ?_
                        refine st_q (v := .int .i64 (((i + 1) : Nat) : Int)) (x_assign rfl) ?_
                        refine st_nil ?_
                        refine kn914 _ ((i + 1)) _ ⟨rfl, rfl, rfl, rfl, rfl, rfl, rfl, trivial⟩ ⟨hF1031, ?_⟩ ?_
                        ·
                          try dsimp only
                          exact (by omega)
                        ·
                          (try dsimp only); omega
                  ·
                    refine exit ?_
                    refine ke920 _ _ _ ?_
                    refine ke916 _ _ _ ?_
                    refine kb897 _ _ ?_
                    refine kn886 _ _ ?_
                    refine seqK fun Q1036 kn1037 kr1038 ke1039 => ?_
                    refine region ?_
                    refine st_q (v := .slice b es.length cb) (x_move rfl) ?_
                    refine st_q (v := .string one) (x_move rfl) ?_
                    refine st_e (e_buildSlice (cs := [.string one]) (e := 9) (fun _ => by kernel_rfl) ?_)
                    intro w1040 hA1041
                    have hx1042 := hA1041.ext
                    have hs1043 := hA1041.size
                    have hB1044 : Blk w1040.heap w900.heap.size [.string one] 9 := hA1041.new
                    have hF1045 := hF902.ext hx1042
                    have hF1046 := hF903.ext hx1042
                    have hF1047 := hF904.ext hx1042
                    have hF1048 := hF905.ext hx1042
                    have hF1049 := hx1042.e hF906 (Nat.le_refl _)
                    have hF1050 := hx1042.e hF907 (Nat.le_refl _)
                    have hF1051 := hF908.ext hx1042
                    have hF1052 := hx1042.e hF909 (Nat.le_refl _)
                    have hF1053 := hx1042.e hx901 (Nat.le_refl _)
                    have hE1054 : Below w0.heap.size w0 w1040 := hx1042.e hE910 (Nat.le_refl _)
                    have hz1055 := hE1054.le
                    have hs1056 := hx1042.size
                    have hl1057 : Src w1040.heap (.slice (some ⟨w900.heap.size, 0, none⟩) 1 1) (([one] : List ByteArray) : List _).length 1 (flat enS ([one] : List ByteArray)) := hB1044.src1 (k := 1) (m := 1) rfl (by omega)
                    refine st_c (t_call [.slice b es.length cb, .slice ((some ⟨w900.heap.size, 0, none⟩)) 1 1] T.cf26 rfl rfl) (reach26 es [one] _ _ _ (hb.below hE1054) hl1057 (fun s hs => by rw [List.mem_singleton] at hs; subst hs; exact h1s) hfe (by simp only [List.length_singleton]; omega)) ?_
                    rintro _ w1058 ⟨v1060, Ra, rfl, hx1059, hRa, hO1061⟩
                    refine ⟨_, rfl, ?_⟩
                    have hB1062 := hB1044.ext hx1059
                    have hF1063 := hF1045.ext hx1059
                    have hF1064 := hF1046.ext hx1059
                    have hF1065 := hF1047.ext hx1059
                    have hF1066 := hF1048.ext hx1059
                    have hF1067 := hx1059.e hF1049 (Nat.le_refl _)
                    have hF1068 := hx1059.e hF1050 (Nat.le_refl _)
                    have hF1069 := hF1051.ext hx1059
                    have hF1070 := hx1059.e hF1052 (Nat.le_refl _)
                    have hF1071 := hx1059.e hF1053 (Nat.le_refl _)
                    have hE1072 : Below w0.heap.size w0 w1058 := hx1059.e hE1054 (Nat.le_refl _)
                    have hz1073 := hE1072.le
                    have hs1074 := hx1059.size
                    refine st_q (v := .string two) (x_move rfl) ?_
                    refine st_c (t_call [v1060, .string two] T.cf27 rfl rfl) (among27 Ra two _ _ hO1061.src) ?_
                    rintro _ w1075 ⟨e1077, hx1076⟩
                    obtain hin | hin := Bool.eq_false_or_eq_true (inB Ra two)
                    ·
                      rw [hin] at e1077
                      subst e1077
                      refine ⟨_, rfl, ?_⟩
                      have hB1078 := hB1062.ext hx1076
                      have hF1079 := hF1063.ext hx1076
                      have hF1080 := hF1064.ext hx1076
                      have hF1081 := hF1065.ext hx1076
                      have hF1082 := hF1066.ext hx1076
                      have hF1083 := hx1076.e hF1067 (Nat.le_refl _)
                      have hF1084 := hx1076.e hF1068 (Nat.le_refl _)
                      have hF1085 := hF1069.ext hx1076
                      have hF1086 := hx1076.e hF1070 (Nat.le_refl _)
                      have hF1087 := hx1076.e hF1071 (Nat.le_refl _)
                      have hF1088 := hO1061.ext hx1076
                      have hE1089 : Below w0.heap.size w0 w1075 := hx1076.e hE1072 (Nat.le_refl _)
                      have hz1090 := hE1089.le
                      have hs1091 := hx1076.size
                      refine st_q (v := .bool true) (x_assign rfl) ?_
                      refine st_nil ?_
                      refine kn1037 _ _ ?_
                      refine seqK fun Q1092 kn1093 kr1094 ke1095 => ?_
                      refine region ?_
                      refine st_q (v := .bool true) (x_move rfl) ?_
                      refine st_q (v := .slice b es.length cb) (x_move rfl) ?_
                      refine st_c (t_call [.slice b es.length cb] T.cf28 rfl rfl) (turned28 es _ _ (hb.below hE1089) (by omega)) ?_
                      rintro _ w1096 ⟨v1098, rfl, hx1097, hO1099⟩
                      refine ⟨_, rfl, ?_⟩
                      have hB1100 := hB1078.ext hx1097
                      have hF1101 := hF1079.ext hx1097
                      have hF1102 := hF1080.ext hx1097
                      have hF1103 := hF1081.ext hx1097
                      have hF1104 := hF1082.ext hx1097
                      have hF1105 := hx1097.e hF1083 (Nat.le_refl _)
                      have hF1106 := hx1097.e hF1084 (Nat.le_refl _)
                      have hF1107 := hF1085.ext hx1097
                      have hF1108 := hx1097.e hF1086 (Nat.le_refl _)
                      have hF1109 := hx1097.e hF1087 (Nat.le_refl _)
                      have hF1110 := hF1088.ext hx1097
                      have hE1111 : Below w0.heap.size w0 w1096 := hx1097.e hE1089 (Nat.le_refl _)
                      have hz1112 := hE1111.le
                      have hs1113 := hx1097.size
                      refine st_q (v := .string two) (x_move rfl) ?_
                      refine st_e (e_buildSlice (cs := [.string two]) (e := 9) (fun _ => by kernel_rfl) ?_)
                      intro w1114 hA1115
                      have hx1116 := hA1115.ext
                      have hs1117 := hA1115.size
                      have hB1118 : Blk w1114.heap w1096.heap.size [.string two] 9 := hA1115.new
                      have hB1119 := hB1100.ext hx1116
                      have hF1120 := hF1101.ext hx1116
                      have hF1121 := hF1102.ext hx1116
                      have hF1122 := hF1103.ext hx1116
                      have hF1123 := hF1104.ext hx1116
                      have hF1124 := hx1116.e hF1105 (Nat.le_refl _)
                      have hF1125 := hx1116.e hF1106 (Nat.le_refl _)
                      have hF1126 := hO1099.ext hx1116
                      have hF1127 := hx1116.e hF1108 (Nat.le_refl _)
                      have hF1128 := hx1116.e hF1109 (Nat.le_refl _)
                      have hF1129 := hF1110.ext hx1116
                      have hE1130 : Below w0.heap.size w0 w1114 := hx1116.e hE1111 (Nat.le_refl _)
                      have hz1131 := hE1130.le
                      have hs1132 := hx1116.size
                      have hl1133 : Src w1114.heap (.slice (some ⟨w1096.heap.size, 0, none⟩) 1 1) (([two] : List ByteArray) : List _).length 1 (flat enS ([two] : List ByteArray)) := hB1118.src1 (k := 1) (m := 1) rfl (by omega)
                      refine st_c (t_call [v1098, .slice ((some ⟨w1096.heap.size, 0, none⟩)) 1 1] T.cf26 rfl rfl) (reach26 (es.map turn) [two] _ _ _ (Own.len hF1126 (by simp)).src hl1133 (fun s hs => by rw [List.mem_singleton] at hs; subst hs; exact h2s) hft (by simp only [List.length_singleton, List.length_map]; omega)) ?_
                      rintro _ w1134 ⟨v1136, Rb, rfl, hx1135, hRb, hO1137⟩
                      refine ⟨_, rfl, ?_⟩
                      have hB1138 := hB1119.ext hx1135
                      have hB1139 := hB1118.ext hx1135
                      have hF1140 := hF1120.ext hx1135
                      have hF1141 := hF1121.ext hx1135
                      have hF1142 := hF1122.ext hx1135
                      have hF1143 := hF1123.ext hx1135
                      have hF1144 := hx1135.e hF1124 (Nat.le_refl _)
                      have hF1145 := hx1135.e hF1125 (Nat.le_refl _)
                      have hF1146 := hF1126.ext hx1135
                      have hF1147 := hx1135.e hF1127 (Nat.le_refl _)
                      have hF1148 := hx1135.e hF1128 (Nat.le_refl _)
                      have hF1149 := hF1129.ext hx1135
                      have hE1150 : Below w0.heap.size w0 w1134 := hx1135.e hE1130 (Nat.le_refl _)
                      have hz1151 := hE1150.le
                      have hs1152 := hx1135.size
                      refine st_q (v := .string one) (x_move rfl) ?_
                      refine st_c (t_call [v1136, .string one] T.cf27 rfl rfl) (among27 Rb one _ _ hO1137.src) ?_
                      rintro _ w1153 ⟨e1155, hx1154⟩
                      rw [reach_back hRa hRb, hin] at e1155
                      subst e1155
                      refine ⟨_, rfl, ?_⟩
                      have hB1156 := hB1138.ext hx1154
                      have hB1157 := hB1139.ext hx1154
                      have hF1158 := hF1140.ext hx1154
                      have hF1159 := hF1141.ext hx1154
                      have hF1160 := hF1142.ext hx1154
                      have hF1161 := hF1143.ext hx1154
                      have hF1162 := hx1154.e hF1144 (Nat.le_refl _)
                      have hF1163 := hx1154.e hF1145 (Nat.le_refl _)
                      have hF1164 := hF1146.ext hx1154
                      have hF1165 := hx1154.e hF1147 (Nat.le_refl _)
                      have hF1166 := hx1154.e hF1148 (Nat.le_refl _)
                      have hF1167 := hF1149.ext hx1154
                      have hF1168 := hO1137.ext hx1154
                      have hE1169 : Below w0.heap.size w0 w1153 := hx1154.e hE1150 (Nat.le_refl _)
                      have hz1170 := hE1169.le
                      have hs1171 := hx1154.size
                      refine st_q (v := .bool (decide ((True) ↔ (True)))) (x_eqlB Try.underlying4 rfl rfl) ?_
                      refine st_if (p := (True) ↔ (True)) (x_move rfl) (fun h1172 => ?_) (fun h1172 => ?_)
                      ·
                        refine st_gq 9 154 rfl rfl (by decide) ?_
                        refine st_q (v := .bool true) (x_move rfl) ?_
                        refine st_gq 9 154 rfl rfl (by decide) ?_
                        refine st_q (v := .slice a133 ((dupR es 0).length) c134) (x_move rfl) ?_
                        refine st_gq 9 154 rfl rfl (by decide) ?_
                        refine st_q (v := .string one) (x_move rfl) ?_
                        refine st_gq 9 154 rfl rfl (by decide) ?_
                        refine st_e (e_buildSlice (cs := [.string one]) (e := 9) (fun _ => by kernel_rfl) ?_)
                        intro w1173 hA1174
                        have hx1175 := hA1174.ext
                        have hs1176 := hA1174.size
                        have hB1177 : Blk w1173.heap w1153.heap.size [.string one] 9 := hA1174.new
                        have hB1178 := hB1156.ext hx1175
                        have hB1179 := hB1157.ext hx1175
                        have hF1180 := hF1158.ext hx1175
                        have hF1181 := hF1159.ext hx1175
                        have hF1182 := hF1160.ext hx1175
                        have hF1183 := hF1161.ext hx1175
                        have hF1184 := hx1175.e hF1162 (Nat.le_refl _)
                        have hF1185 := hx1175.e hF1163 (Nat.le_refl _)
                        have hF1186 := hF1164.ext hx1175
                        have hF1187 := hx1175.e hF1165 (Nat.le_refl _)
                        have hF1188 := hx1175.e hF1166 (Nat.le_refl _)
                        have hF1189 := hF1167.ext hx1175
                        have hF1190 := hF1168.ext hx1175
                        have hE1191 : Below w0.heap.size w0 w1173 := hx1175.e hE1169 (Nat.le_refl _)
                        have hz1192 := hE1191.le
                        have hs1193 := hx1175.size
                        refine st_gq 9 154 rfl rfl (by decide) ?_
                        have hl1194 : Src w1173.heap (.slice (some ⟨w1153.heap.size, 0, none⟩) 1 1) (([one] : List ByteArray) : List _).length 1 (flat enS ([one] : List ByteArray)) := hB1177.src1 (k := 1) (m := 1) rfl (by omega)
                        refine st_c (t_call [.slice a133 ((dupR es 0).length) c134, .slice ((some ⟨w1153.heap.size, 0, none⟩)) 1 1] T.cf26 rfl rfl) (reach26 (dupR es 0) [one] _ _ _ hF1181.src hl1194 (fun s hs => by rw [List.mem_singleton] at hs; subst hs; exact h1s) hfe2 (by simp only [List.length_singleton]; omega)) ?_
                        rintro _ w1195 ⟨v1197, Rc, rfl, hx1196, hRc, hO1198⟩
                        refine ⟨_, rfl, ?_⟩
                        have hB1199 := hB1178.ext hx1196
                        have hB1200 := hB1179.ext hx1196
                        have hB1201 := hB1177.ext hx1196
                        have hF1202 := hF1180.ext hx1196
                        have hF1203 := hF1181.ext hx1196
                        have hF1204 := hF1182.ext hx1196
                        have hF1205 := hF1183.ext hx1196
                        have hF1206 := hx1196.e hF1184 (Nat.le_refl _)
                        have hF1207 := hx1196.e hF1185 (Nat.le_refl _)
                        have hF1208 := hF1186.ext hx1196
                        have hF1209 := hx1196.e hF1187 (Nat.le_refl _)
                        have hF1210 := hx1196.e hF1188 (Nat.le_refl _)
                        have hF1211 := hF1189.ext hx1196
                        have hF1212 := hF1190.ext hx1196
                        have hE1213 : Below w0.heap.size w0 w1195 := hx1196.e hE1191 (Nat.le_refl _)
                        have hz1214 := hE1213.le
                        have hs1215 := hx1196.size
                        refine st_gq 9 154 rfl rfl (by decide) ?_
                        refine st_q (v := .string two) (x_move rfl) ?_
                        refine st_gq 9 154 rfl rfl (by decide) ?_
                        refine st_c (t_call [v1197, .string two] T.cf27 rfl rfl) (among27 Rc two _ _ hO1198.src) ?_
                        rintro _ w1216 ⟨e1218, hx1217⟩
                        rw [reach_more hme hRa hRc, hin] at e1218
                        subst e1218
                        refine ⟨_, rfl, ?_⟩
                        have hB1219 := hB1199.ext hx1217
                        have hB1220 := hB1200.ext hx1217
                        have hB1221 := hB1201.ext hx1217
                        have hF1222 := hF1202.ext hx1217
                        have hF1223 := hF1203.ext hx1217
                        have hF1224 := hF1204.ext hx1217
                        have hF1225 := hF1205.ext hx1217
                        have hF1226 := hx1217.e hF1206 (Nat.le_refl _)
                        have hF1227 := hx1217.e hF1207 (Nat.le_refl _)
                        have hF1228 := hF1208.ext hx1217
                        have hF1229 := hx1217.e hF1209 (Nat.le_refl _)
                        have hF1230 := hx1217.e hF1210 (Nat.le_refl _)
                        have hF1231 := hF1211.ext hx1217
                        have hF1232 := hF1212.ext hx1217
                        have hF1233 := hO1198.ext hx1217
                        have hE1234 : Below w0.heap.size w0 w1216 := hx1217.e hE1213 (Nat.le_refl _)
                        have hz1235 := hE1234.le
                        have hs1236 := hx1217.size
                        refine st_gq 9 154 rfl rfl (by decide) ?_
                        refine st_q (v := .bool (decide ((True) ↔ (True)))) (x_eqlB Try.underlying4 rfl rfl) ?_
                        refine st_q (v := .bool (decide ((True) ↔ (True)))) (x_pickT rfl rfl) ?_
                        refine st_q (v := .bool (decide ((True) ↔ (True)))) (x_assign rfl) ?_
                        refine st_nil ?_
                        refine kn1093 _ _ ?_
                        refine ret ?_
                        refine leave1 (P := Try.prog) (fn := Try.f7) (t := 8) (v := .bool (decide ((True) ↔ (True)))) rfl rfl ?_
                        exact ⟨by rw [decide_eq_true Iff.rfl], hE1234⟩
                      ·
                        exact absurd h1172 (not_not_intro Iff.rfl)
                    ·
                      rw [hin] at e1077
                      subst e1077
                      refine ⟨_, rfl, ?_⟩
                      have hB1237 := hB1062.ext hx1076
                      have hF1238 := hF1063.ext hx1076
                      have hF1239 := hF1064.ext hx1076
                      have hF1240 := hF1065.ext hx1076
                      have hF1241 := hF1066.ext hx1076
                      have hF1242 := hx1076.e hF1067 (Nat.le_refl _)
                      have hF1243 := hx1076.e hF1068 (Nat.le_refl _)
                      have hF1244 := hF1069.ext hx1076
                      have hF1245 := hx1076.e hF1070 (Nat.le_refl _)
                      have hF1246 := hx1076.e hF1071 (Nat.le_refl _)
                      have hF1247 := hO1061.ext hx1076
                      have hE1248 : Below w0.heap.size w0 w1075 := hx1076.e hE1072 (Nat.le_refl _)
                      have hz1249 := hE1248.le
                      have hs1250 := hx1076.size
                      refine st_q (v := .bool false) (x_assign rfl) ?_
                      refine st_nil ?_
                      refine kn1037 _ _ ?_
                      refine seqK fun Q1251 kn1252 kr1253 ke1254 => ?_
                      refine region ?_
                      refine st_q (v := .bool false) (x_move rfl) ?_
                      refine st_q (v := .slice b es.length cb) (x_move rfl) ?_
                      refine st_c (t_call [.slice b es.length cb] T.cf28 rfl rfl) (turned28 es _ _ (hb.below hE1248) (by omega)) ?_
                      rintro _ w1255 ⟨v1257, rfl, hx1256, hO1258⟩
                      refine ⟨_, rfl, ?_⟩
                      have hB1259 := hB1237.ext hx1256
                      have hF1260 := hF1238.ext hx1256
                      have hF1261 := hF1239.ext hx1256
                      have hF1262 := hF1240.ext hx1256
                      have hF1263 := hF1241.ext hx1256
                      have hF1264 := hx1256.e hF1242 (Nat.le_refl _)
                      have hF1265 := hx1256.e hF1243 (Nat.le_refl _)
                      have hF1266 := hF1244.ext hx1256
                      have hF1267 := hx1256.e hF1245 (Nat.le_refl _)
                      have hF1268 := hx1256.e hF1246 (Nat.le_refl _)
                      have hF1269 := hF1247.ext hx1256
                      have hE1270 : Below w0.heap.size w0 w1255 := hx1256.e hE1248 (Nat.le_refl _)
                      have hz1271 := hE1270.le
                      have hs1272 := hx1256.size
                      refine st_q (v := .string two) (x_move rfl) ?_
                      refine st_e (e_buildSlice (cs := [.string two]) (e := 9) (fun _ => by kernel_rfl) ?_)
                      intro w1273 hA1274
                      have hx1275 := hA1274.ext
                      have hs1276 := hA1274.size
                      have hB1277 : Blk w1273.heap w1255.heap.size [.string two] 9 := hA1274.new
                      have hB1278 := hB1259.ext hx1275
                      have hF1279 := hF1260.ext hx1275
                      have hF1280 := hF1261.ext hx1275
                      have hF1281 := hF1262.ext hx1275
                      have hF1282 := hF1263.ext hx1275
                      have hF1283 := hx1275.e hF1264 (Nat.le_refl _)
                      have hF1284 := hx1275.e hF1265 (Nat.le_refl _)
                      have hF1285 := hO1258.ext hx1275
                      have hF1286 := hx1275.e hF1267 (Nat.le_refl _)
                      have hF1287 := hx1275.e hF1268 (Nat.le_refl _)
                      have hF1288 := hF1269.ext hx1275
                      have hE1289 : Below w0.heap.size w0 w1273 := hx1275.e hE1270 (Nat.le_refl _)
                      have hz1290 := hE1289.le
                      have hs1291 := hx1275.size
                      have hl1292 : Src w1273.heap (.slice (some ⟨w1255.heap.size, 0, none⟩) 1 1) (([two] : List ByteArray) : List _).length 1 (flat enS ([two] : List ByteArray)) := hB1277.src1 (k := 1) (m := 1) rfl (by omega)
                      refine st_c (t_call [v1257, .slice ((some ⟨w1255.heap.size, 0, none⟩)) 1 1] T.cf26 rfl rfl) (reach26 (es.map turn) [two] _ _ _ (Own.len hF1285 (by simp)).src hl1292 (fun s hs => by rw [List.mem_singleton] at hs; subst hs; exact h2s) hft (by simp only [List.length_singleton, List.length_map]; omega)) ?_
                      rintro _ w1293 ⟨v1295, Rb, rfl, hx1294, hRb, hO1296⟩
                      refine ⟨_, rfl, ?_⟩
                      have hB1297 := hB1278.ext hx1294
                      have hB1298 := hB1277.ext hx1294
                      have hF1299 := hF1279.ext hx1294
                      have hF1300 := hF1280.ext hx1294
                      have hF1301 := hF1281.ext hx1294
                      have hF1302 := hF1282.ext hx1294
                      have hF1303 := hx1294.e hF1283 (Nat.le_refl _)
                      have hF1304 := hx1294.e hF1284 (Nat.le_refl _)
                      have hF1305 := hF1285.ext hx1294
                      have hF1306 := hx1294.e hF1286 (Nat.le_refl _)
                      have hF1307 := hx1294.e hF1287 (Nat.le_refl _)
                      have hF1308 := hF1288.ext hx1294
                      have hE1309 : Below w0.heap.size w0 w1293 := hx1294.e hE1289 (Nat.le_refl _)
                      have hz1310 := hE1309.le
                      have hs1311 := hx1294.size
                      refine st_q (v := .string one) (x_move rfl) ?_
                      refine st_c (t_call [v1295, .string one] T.cf27 rfl rfl) (among27 Rb one _ _ hO1296.src) ?_
                      rintro _ w1312 ⟨e1314, hx1313⟩
                      rw [reach_back hRa hRb, hin] at e1314
                      subst e1314
                      refine ⟨_, rfl, ?_⟩
                      have hB1315 := hB1297.ext hx1313
                      have hB1316 := hB1298.ext hx1313
                      have hF1317 := hF1299.ext hx1313
                      have hF1318 := hF1300.ext hx1313
                      have hF1319 := hF1301.ext hx1313
                      have hF1320 := hF1302.ext hx1313
                      have hF1321 := hx1313.e hF1303 (Nat.le_refl _)
                      have hF1322 := hx1313.e hF1304 (Nat.le_refl _)
                      have hF1323 := hF1305.ext hx1313
                      have hF1324 := hx1313.e hF1306 (Nat.le_refl _)
                      have hF1325 := hx1313.e hF1307 (Nat.le_refl _)
                      have hF1326 := hF1308.ext hx1313
                      have hF1327 := hO1296.ext hx1313
                      have hE1328 : Below w0.heap.size w0 w1312 := hx1313.e hE1309 (Nat.le_refl _)
                      have hz1329 := hE1328.le
                      have hs1330 := hx1313.size
                      refine st_q (v := .bool (decide ((False) ↔ (False)))) (x_eqlB Try.underlying4 rfl rfl) ?_
                      refine st_if (p := (False) ↔ (False)) (x_move rfl) (fun h1331 => ?_) (fun h1331 => ?_)
                      ·
                        refine st_gq 9 154 rfl rfl (by decide) ?_
                        refine st_q (v := .bool false) (x_move rfl) ?_
                        refine st_gq 9 154 rfl rfl (by decide) ?_
                        refine st_q (v := .slice a133 ((dupR es 0).length) c134) (x_move rfl) ?_
                        refine st_gq 9 154 rfl rfl (by decide) ?_
                        refine st_q (v := .string one) (x_move rfl) ?_
                        refine st_gq 9 154 rfl rfl (by decide) ?_
                        refine st_e (e_buildSlice (cs := [.string one]) (e := 9) (fun _ => by kernel_rfl) ?_)
                        intro w1332 hA1333
                        have hx1334 := hA1333.ext
                        have hs1335 := hA1333.size
                        have hB1336 : Blk w1332.heap w1312.heap.size [.string one] 9 := hA1333.new
                        have hB1337 := hB1315.ext hx1334
                        have hB1338 := hB1316.ext hx1334
                        have hF1339 := hF1317.ext hx1334
                        have hF1340 := hF1318.ext hx1334
                        have hF1341 := hF1319.ext hx1334
                        have hF1342 := hF1320.ext hx1334
                        have hF1343 := hx1334.e hF1321 (Nat.le_refl _)
                        have hF1344 := hx1334.e hF1322 (Nat.le_refl _)
                        have hF1345 := hF1323.ext hx1334
                        have hF1346 := hx1334.e hF1324 (Nat.le_refl _)
                        have hF1347 := hx1334.e hF1325 (Nat.le_refl _)
                        have hF1348 := hF1326.ext hx1334
                        have hF1349 := hF1327.ext hx1334
                        have hE1350 : Below w0.heap.size w0 w1332 := hx1334.e hE1328 (Nat.le_refl _)
                        have hz1351 := hE1350.le
                        have hs1352 := hx1334.size
                        refine st_gq 9 154 rfl rfl (by decide) ?_
                        have hl1353 : Src w1332.heap (.slice (some ⟨w1312.heap.size, 0, none⟩) 1 1) (([one] : List ByteArray) : List _).length 1 (flat enS ([one] : List ByteArray)) := hB1336.src1 (k := 1) (m := 1) rfl (by omega)
                        refine st_c (t_call [.slice a133 ((dupR es 0).length) c134, .slice ((some ⟨w1312.heap.size, 0, none⟩)) 1 1] T.cf26 rfl rfl) (reach26 (dupR es 0) [one] _ _ _ hF1340.src hl1353 (fun s hs => by rw [List.mem_singleton] at hs; subst hs; exact h1s) hfe2 (by simp only [List.length_singleton]; omega)) ?_
                        rintro _ w1354 ⟨v1356, Rc, rfl, hx1355, hRc, hO1357⟩
                        refine ⟨_, rfl, ?_⟩
                        have hB1358 := hB1337.ext hx1355
                        have hB1359 := hB1338.ext hx1355
                        have hB1360 := hB1336.ext hx1355
                        have hF1361 := hF1339.ext hx1355
                        have hF1362 := hF1340.ext hx1355
                        have hF1363 := hF1341.ext hx1355
                        have hF1364 := hF1342.ext hx1355
                        have hF1365 := hx1355.e hF1343 (Nat.le_refl _)
                        have hF1366 := hx1355.e hF1344 (Nat.le_refl _)
                        have hF1367 := hF1345.ext hx1355
                        have hF1368 := hx1355.e hF1346 (Nat.le_refl _)
                        have hF1369 := hx1355.e hF1347 (Nat.le_refl _)
                        have hF1370 := hF1348.ext hx1355
                        have hF1371 := hF1349.ext hx1355
                        have hE1372 : Below w0.heap.size w0 w1354 := hx1355.e hE1350 (Nat.le_refl _)
                        have hz1373 := hE1372.le
                        have hs1374 := hx1355.size
                        refine st_gq 9 154 rfl rfl (by decide) ?_
                        refine st_q (v := .string two) (x_move rfl) ?_
                        refine st_gq 9 154 rfl rfl (by decide) ?_
                        refine st_c (t_call [v1356, .string two] T.cf27 rfl rfl) (among27 Rc two _ _ hO1357.src) ?_
                        rintro _ w1375 ⟨e1377, hx1376⟩
                        rw [reach_more hme hRa hRc, hin] at e1377
                        subst e1377
                        refine ⟨_, rfl, ?_⟩
                        have hB1378 := hB1358.ext hx1376
                        have hB1379 := hB1359.ext hx1376
                        have hB1380 := hB1360.ext hx1376
                        have hF1381 := hF1361.ext hx1376
                        have hF1382 := hF1362.ext hx1376
                        have hF1383 := hF1363.ext hx1376
                        have hF1384 := hF1364.ext hx1376
                        have hF1385 := hx1376.e hF1365 (Nat.le_refl _)
                        have hF1386 := hx1376.e hF1366 (Nat.le_refl _)
                        have hF1387 := hF1367.ext hx1376
                        have hF1388 := hx1376.e hF1368 (Nat.le_refl _)
                        have hF1389 := hx1376.e hF1369 (Nat.le_refl _)
                        have hF1390 := hF1370.ext hx1376
                        have hF1391 := hF1371.ext hx1376
                        have hF1392 := hO1357.ext hx1376
                        have hE1393 : Below w0.heap.size w0 w1375 := hx1376.e hE1372 (Nat.le_refl _)
                        have hz1394 := hE1393.le
                        have hs1395 := hx1376.size
                        refine st_gq 9 154 rfl rfl (by decide) ?_
                        refine st_q (v := .bool (decide ((False) ↔ (False)))) (x_eqlB Try.underlying4 rfl rfl) ?_
                        refine st_q (v := .bool (decide ((False) ↔ (False)))) (x_pickT rfl rfl) ?_
                        refine st_q (v := .bool (decide ((False) ↔ (False)))) (x_assign rfl) ?_
                        refine st_nil ?_
                        refine kn1252 _ _ ?_
                        refine ret ?_
                        refine leave1 (P := Try.prog) (fn := Try.f7) (t := 8) (v := .bool (decide ((False) ↔ (False)))) rfl rfl ?_
                        exact ⟨by rw [decide_eq_true Iff.rfl], hE1393⟩
                      ·
                        exact absurd h1331 (not_not_intro Iff.rfl)

end Go.Proofs.Ytknfjgbipfpnjaa
