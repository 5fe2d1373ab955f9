import Derived.Test.YtknfjgbipfpnjaaGF2
namespace Go.Proofs.Ytknfjgbipfpnjaa
open Go.RowKit Go.Eng Go.OrdPure
open Go.Knot
theorem T.cf46 : CF Try.prog 46 := fun _ _ => by kernel_rfl

theorem x_notBB {P : Program} {n : Nat} {σ : Nat → Value} {w : World} {ty t : TypeId} {x : Operand} {b : Bool} (hx : ev n σ x = .bool b) : Ex P (ev n σ) w (.unOp .not t x) ty (.bool (decide (¬ (b = true)))) := by
  exact x_notP (p := b = true) (by rw [hx]; cases b <;> rfl)
theorem WI_in {ns : List ByteArray} {es : List Edge} {k : Nat} (hk : k < es.length) : el (outN ns es (tF ns es k)) 0 = el (outN ns es (tF ns es k)) 0 := rfl
set_option maxHeartbeats 4000000 in
theorem cycle18 (es : List Edge) (vb : Value) (w0 : World) (hb : Src w0.heap vb es.length 3 (flat enE es)) (hfe : FitE es) (hn : 2 * es.length ≤ 2097152) : Calls Try.prog 18 #[vb] w0 fun e w' => ∃ v row ok, e = .returned (.tuple #[v, .bool ok]) ∧ Ext w0 w' ∧ IsCyc (nodesL [] es) es row ok ∧ Own w'.heap w0.heap.size 3 1 v row.length (flat enN row) := by
  have hE0 : Below w0.heap.size w0 w0 := Below.refl _ _
  have hz0 := hE0.le
  obtain ⟨b, cb, rfl, hcb, hcb1⟩ := hb.form
  refine enter Try.func18 rfl 163 Try.ntmps18 rfl ?_
  refine seqK fun Q1 kn2 kr3 ke4 => ?_
  refine region ?_
  refine st_q (v := .slice none 0 0) (x_assign rfl) ?_
  refine st_q (v := .bool false) (x_assign rfl) ?_
  refine st_nil ?_
  refine kn2 _ _ ?_
  refine scopeS fun Q5 kn6 kr7 ke8 => ?_
  refine seqK fun Q9 kn10 kr11 ke12 => ?_
  refine region ?_
  refine st_q (v := .slice b es.length cb) (x_move rfl) ?_
  refine st_c (t_call [.slice none 0 0, .slice b es.length cb] T.cf35 rfl rfl) (laid35 [] es _ _ _ (Src.nil _ _) (hb.below hE0) (fun s h => absurd h (by simp)) hfe (by first | omega | (simp; omega))) ?_
  rintro _ w13 ⟨g, D, rfl, hx14, hDlo, hN⟩
  refine ⟨_, rfl, ?_⟩
  have hsz1 := hx14.size
  have hE15 : Below w13.heap.size w13 w13 := Below.refl _ _
  have hz16 := hE15.le
  have hb' := hb.ext hx14
  obtain ⟨ns, hns⟩ : ∃ n, n = nodesL [] es := ⟨_, rfl⟩
  rw [← hns] at hN
  have hfit := hN.fit
  have hvlen := hN.vlen
  have hends := hN.ends
  refine st_q (v := .pointer (some ⟨g, 0, none⟩)) (x_assign rfl) ?_
  refine st_nil ?_
  refine kn10 _ _ ?_
  refine seqK fun Q17 kn18 kr19 ke20 => ?_
  refine region ?_
  refine st_q (v := .pointer (some ⟨g, 0, none⟩)) (x_move rfl) ?_
  refine st_q (v := .slice b es.length cb) (x_move rfl) ?_
  refine st_c (t_call [.pointer (some ⟨g, 0, none⟩), .slice b es.length cb] T.cf36 rfl rfl) (knot36 ns es g D _ _ hN hb') ?_
  rintro _ w21 ⟨vp23, Pn, m, rfl, hx22, hPl, hKt, hPm, hPo⟩
  refine ⟨_, rfl, ?_⟩
  obtain ⟨ap, cp, rfl, hcp1, hcp2⟩ := hPo.src.form
  have hsz2 := hx22.size
  have hK : Kn ns es Pn m := ⟨hN.sx, hN.ends, hKt, hPl⟩
  have hN2 := hN.below hx22
  have hPs := hPo.src
  have hx24 := Below.e hx22 hx14 (Nat.le_refl _)
  have hE25 : Below w21.heap.size w21 w21 := Below.refl _ _
  have hz26 := hE25.le
  have hb'' := hb'.ext hx22
  refine st_q (v := .tuple #[.slice ap ns.length cp, .int .i64 ((m : Nat) : Int)]) (x_move rfl) ?_
  refine st_q (v := .slice ap ns.length cp) (x_extract rfl rfl) ?_
  refine st_q (v := .int .i64 ((m : Nat) : Int)) (x_extract rfl rfl) ?_
  refine st_q (v := .slice ap ns.length cp) (x_assign rfl) ?_
  refine st_q (v := .int .i64 ((m : Nat) : Int)) (x_assign rfl) ?_
  refine st_nil ?_
  refine kn18 _ _ ?_
  refine seqK fun Q27 kn28 kr29 ke30 => ?_
  refine region ?_
  refine st_q (v := .pointer (some ⟨g, 0, none⟩)) (x_move rfl) ?_
  refine st_q (v := .pointer (some ⟨g, 0, none⟩)) (x_nilCheck rfl) ?_
  refine st_q (v := .pointer (some ⟨g, 0, none⟩)) (x_field (o := 0) T.fa65_0 rfl) ?_
  refine st_q (v := .slice D.na ns.length D.nc) (x_load1 T.na22 rfl ((hN2.blk.keep (hE25.block _ hN2.blk.lt)).one 0 rfl)) ?_
  refine st_q (v := .int .i64 ((ns.length : Nat) : Int)) (x_lenSl rfl Try.underlying22 rfl) ?_
  refine st_e (e_makeSlice T.sl63 rfl rfl (by omega) (by omega) ?_)
  intro w31 hA32
  have hx33 := hA32.ext
  have hs36 := hA32.size
  have hA32x : Al w21 w31 (.cells (flat enV (List.replicate ns.length (.slice none 0 0))).toArray 38) := by rw [flat_repV]; exact hA32
  have hO34 := OB.new (lo := w21.heap.size) (k := 1) (c := ns.length) hA32x (by omega) (by rw [flat_length enV_len]; simp) (by omega)
  have hF35 := Fam.nils (α := Nat) w31.heap w21.heap.size 3 enN ns.length
  have hE37 : Below w21.heap.size w21 w31 := hx33.e hE25 (Nat.le_refl _)
  have hz38 := hE37.le
  have hs39 := hx33.size
  have hl40 := hO34.lo
  have hl41 := hO34.lt
  refine st_q (v := .slice ((some ⟨w21.heap.size, 0, none⟩)) ns.length ns.length) (x_assign rfl) ?_
  refine st_nil ?_
  refine kn28 _ _ ?_
  refine seqK fun Q42 kn43 kr44 ke45 => ?_
  refine seqK fun Q46 kn47 kr48 ke49 => ?_
  refine region ?_
  refine st_q (v := .slice b es.length cb) (x_move rfl) ?_
  refine st_q (v := .int .i64 ((es.length : Nat) : Int)) (x_lenSl rfl Try.underlying23 rfl) ?_
  refine st_q (v := .int .i64 ((0 : Nat) : Int)) (x_move rfl) ?_
  refine st_nil ?_
  refine kn47 _ _ ?_
  refine blockK fun Q50 kn51 kr52 kx53 kb54 => ?_
  refine loopK (α := Nat × (List Value)) (fun x => [(0, .slice b es.length cb), (4, .pointer (some ⟨g, 0, none⟩)), (5, .slice ap ns.length cp), (7, .slice ((some ⟨w21.heap.size, 0, none⟩)) ns.length ns.length), (36, .slice b es.length cb), (37, .int .i64 ((es.length : Nat) : Int)), (38, .int .i64 ((x.1 : Nat) : Int))]) (fun x w55 => Below w21.heap.size w21 w55 ∧ x.1 ≤ es.length ∧ x.2.length = ns.length ∧ OB w55.heap w21.heap.size 38 1 w21.heap.size ns.length (flat enV x.2) ∧ Fam w55.heap w21.heap.size 3 enN x.2 (grp (zipI (tgt ns es) x.1) ns.length)) (fun x => es.length - x.1) (0, (List.replicate ns.length (.slice none 0 0))) ⟨rfl, rfl, rfl, rfl, rfl, rfl, rfl, trivial⟩ ?_ ?_
  ·
    refine ⟨hE37, ?_⟩
    try dsimp only
    exact ⟨Nat.zero_le _, by simp, hO34, (grp_nil (α := Nat) ns.length).symm ▸ hF35⟩
  ·
    rintro τ56 ⟨i, vs⟩ w57 ⟨hx58, ⟨hi, hvl, hOb, hF⟩⟩
    try dsimp only at hi hvl hOb hF
    have hz59 := hx58.le
    intro Q60 kn61 kr62 ke63
    have hl64 := hOb.lo
    have hl65 := hOb.lt
    refine seqK fun Q66 kn67 kr68 ke69 => ?_
    refine region ?_
    refine st_q (v := .bool (decide (i < es.length))) (x_lssN rfl rfl) ?_
    refine st_nil ?_
    refine kn67 _ _ ?_
    refine seqK fun Q70 kn71 kr72 ke73 => ?_
    refine cnd (p := i < es.length) rfl (fun h74 => ?_) (fun h74 => ?_)
    ·
      refine skip ?_
      refine kn71 _ _ ?_
      refine seqK fun Q75 kn76 kr77 ke78 => ?_
      refine blockK fun Q79 kn80 kr81 kx82 kb83 => ?_
      refine seqK fun Q84 kn85 kr86 ke87 => ?_
      refine region ?_
      refine st_q (v := .int .i64 ((i : Nat) : Int)) (x_move rfl) ?_
      obtain ⟨b88, o89, ha90, hc91⟩ := hb''.at (by omega)
      refine st_q (v := .pointer (some ⟨b88, o89 + i * 3, none⟩)) (x_index' T.sl23 rfl ha90 rfl (by omega)) ?_
      have hi1 : ixS ns (el es i).1 < ns.length := ixS_lt (hends i (by omega)).1
      have hi2 : ixS ns (el es i).2.1 < ns.length := ixS_lt (hends i (by omega)).2
      refine st_q (v := .agg #[.string ((el es i).1), .string ((el es i).2.1), .bool ((el es i).2.2)]) (x_loadA [.string ((el es i).1), .string ((el es i).2.1), .bool ((el es i).2.2)] T.ag47 rfl ((hc91.below hx58).elem enE_len (i := i) (by omega))) ?_
      refine st_e (e_alloc T.zv47 ?_)
      intro w92 hA93
      have hx94 := hA93.ext
      have hs95 := hA93.size
      have hB96 : Blk w92.heap w57.heap.size [.string ByteArray.empty, .string ByteArray.empty, .bool false] 47 := hA93.new
      have hF97 := hOb.ext hx94
      have hF98 := Fam.ext hF hx94
      have hE99 : Below w21.heap.size w21 w92 := hx94.e hx58 (Nat.le_refl _)
      have hz100 := hE99.le
      have hs101 := hx94.size
      refine st_q (v := .int .i64 ((i : Nat) : Int)) (x_assign rfl) ?_
      refine st_s (e_st (v := .agg #[.string ((el es i).1), .string ((el es i).2.1), .bool ((el es i).2.2)]) T.sz47 rfl rfl hB96 (by simp [Value.cells]) (by rfl) ?_)
      intro w102 hP103
      have hB104 : Blk w102.heap w57.heap.size [.string ((el es i).1), .string ((el es i).2.1), .bool ((el es i).2.2)] 47 := hP103.new
      have hs105 := hP103.size
      have hF106 := hF97.gk (hP103.grownBy) (hB96.rowk) (by decide)
      have hF107 := Fam.gk hF98 (hP103.grownBy) (hB96.rowk) (by decide)
      have hE108 : Below w21.heap.size w21 w102 := hP103.below hE99 (by omega)
      have hz109 := hE108.le
      refine st_nil ?_
      refine kn85 _ _ ?_
      refine seqK fun Q110 kn111 kr112 ke113 => ?_
      refine regionD1 [3, 5, 6] [0, 1, 2, 3, 4, 5, 6, 7] (.one 0 (.one 1 (.one 2 (.one 3 (.one 4 (.one 5 (.one 6 (.one 7 .done)))))))) (by kernel_rfl) (by kernel_rfl) ?_
      intro w114 hx115 hs116
      have hB117 := hB104.ext hx115
      have hF118 := hF106.ext hx115
      have hF119 := Fam.ext hF107 hx115
      have hE120 : Below w21.heap.size w21 w114 := hx115.e hE108 (Nat.le_refl _)
      have hz121 := hE120.le
      have hs122 := hx115.size
      have hS123 : Ext w114 w114 := Below.refl _ _
      refine d_q (v := .pointer (some ⟨g, 0, none⟩)) rfl rfl (fun _ => x_move rfl) ?_
      refine d_q (v := .pointer (some ⟨g, 0, none⟩)) rfl rfl (fun _ => x_nilCheck rfl) ?_
      refine d_q (v := .pointer (some ⟨g, 1, none⟩)) rfl rfl (fun _ => x_field (o := 0) T.fa65_1 rfl) ?_
      refine d_l (v := .map (some D.bm)) rfl rfl rfl (fun v125 hw124 => x_load1 T.na62 rfl (((hN2.blk.keep (hE120.block _ hN2.blk.lt)).one 1 rfl).ext hw124)) ?_
      refine d_q (v := .pointer (some ⟨w57.heap.size, 1, none⟩)) rfl rfl (fun _ => x_field (o := 0) T.fa47_1 rfl) ?_
      refine d_l (v := .string ((el es i).2.1)) rfl rfl rfl (fun v127 hw126 => x_load1 T.na9 rfl ((hB117.one 1 rfl).ext hw126)) ?_
      refine d_l (v := .int .i64 (((ixS ns ((el es i).2.1)) : Nat) : Int)) rfl rfl rfl (fun v129 hw128 => x_lookupM rfl rfl Try.underlying9 Try.underlying3 Try.underlying62 zeroI (OMap.ext (OMap.belowW hN2.map hE120) hw128) (hN2.fitn _ (hends _ (by omega)).2) (hends _ (by omega)).2) ?_
      refine d_q (v := .int .i64 (((ixS ns ((el es i).2.1)) : Nat) : Int)) rfl rfl (fun _ => x_assign rfl) ?_
      refine d_done ?_
      refine kn111 _ _ ?_
      refine region ?_
      refine st_q (v := .slice ((some ⟨w21.heap.size, 0, none⟩)) ns.length ns.length) (x_move rfl) ?_
      refine st_q (v := .int .i64 (((ixS ns ((el es i).2.1)) : Nat) : Int)) (x_move rfl) ?_
      refine st_q (v := .slice ((some ⟨w21.heap.size, 0, none⟩)) ns.length ns.length) (x_move rfl) ?_
      refine st_q (v := .int .i64 (((ixS ns ((el es i).2.1)) : Nat) : Int)) (x_move rfl) ?_
      refine st_q (v := .pointer (some ⟨w21.heap.size, 0 + ((ixS ns ((el es i).2.1))) * 1, none⟩)) (x_index T.sl63 rfl rfl (by omega)) ?_
      refine st_q (v := el vs ((ixS ns ((el es i).2.1)))) (x_load1 T.na38 rfl (hF118.cells.elem enV_len (i := (ixS ns ((el es i).2.1))) (by omega))) ?_
      refine st_q (v := .int .i64 ((i : Nat) : Int)) (x_move rfl) ?_
      refine st_e (e_buildSlice (cs := [.int .i64 ((i : Nat) : Int)]) (e := 3) (fun _ => by kernel_rfl) ?_)
      intro w130 hA131
      have hx132 := hA131.ext
      have hs133 := hA131.size
      have hB134 : Blk w130.heap w114.heap.size [.int .i64 ((i : Nat) : Int)] 3 := hA131.new
      have hB135 := hB117.ext hx132
      have hF136 := hF118.ext hx132
      have hF137 := Fam.ext hF119 hx132
      have hE138 : Below w21.heap.size w21 w130 := hx132.e hE120 (Nat.le_refl _)
      have hz139 := hE138.le
      have hs140 := hx132.size
      have hrl : (el (grp (zipI (tgt ns es) i) ns.length) (ixS ns (el es i).2.1)).length ≤ i := zip_row_le hi2
      have ho147 := hF137.own ((ixS ns (el es i).2.1)) (by have := hF137.len; omega)
      refine st_e (e_appendX T.sl38 rfl rfl ho147 (hB134.src1 (k := 1) (m := 1) rfl (by omega)) (ones (by rfl)) (by omega) (by decide) (by omega) ?_)
      intro v141 w142 hO143 hG144 hN145 hW146
      obtain ⟨a148, c149, rfl, _, _⟩ := hO143.src.form
      have hB150 := hB135.gk (hG144) (ho147.rowk) (by decide)
      have hF151 := hF136.gk (hG144) (ho147.rowk) (by decide)
      have hE152 : Below w21.heap.size w21 w142 := grown_below hG144 hE138 (Nat.le_refl _) (fun b hb => by have := (ho147.lt hb).1; omega)
      have hz153 := hE152.le
      have hs154 := hG144.size
      have hF155 := Fam.push hF137 (a := (ixS ns (el es i).2.1)) (by have := hF137.len; omega) (xs' := el (grp (zipI (tgt ns es) i) ns.length) ((ixS ns (el es i).2.1)) ++ [i]) (by simp) (Own.snoc (enc := enN) (u := i) hO143) hG144 hW146
      refine st_q (v := .pointer (some ⟨w21.heap.size, 0 + ((ixS ns ((el es i).2.1))) * 1, none⟩)) (x_index T.sl63 rfl rfl (by omega)) ?_
      refine st_s (e_stO (v := .slice a148 (((el (grp (zipI (tgt ns es) i) ns.length) ((ixS ns (el es i).2.1))).length + 1)) c149) (u := .slice a148 (((el (grp (zipI (tgt ns es) i) ns.length) ((ixS ns (el es i).2.1))).length + 1)) c149) enV_len T.sz38 rfl rfl rfl hF151 (by first | omega | (rw [List.length_set]; omega)) (by rfl) ?_)
      intro w156 _ hP157 hB158
      have hs159 := hP157.size
      have hB160 := hB150.gk (hP157.grownBy) (hF151.rowk) (by decide)
      have hF161 := Fam.gk hF155 (hP157.grownBy) (hF151.rowk) (by decide)
      have hE162 : Below w21.heap.size w21 w156 := hP157.below hE152 (by omega)
      have hz163 := hE162.le
      refine st_nil ?_
      refine kn80 _ _ ?_
      refine kn76 _ _ ?_
      refine region ?_
      refine st_q (v := .int .i64 (((i + 1) : Nat) : Int)) (x_addN rfl rfl (by omega)) ?_
      refine st_q (v := .int .i64 (((i + 1) : Nat) : Int)) (x_move rfl) ?_
      refine st_nil ?_
      refine kn61 _ ((i + 1), (vs.set ((ixS ns ((el es i).2.1))) (.slice a148 (((el (grp (zipI (tgt ns es) i) ns.length) ((ixS ns (el es i).2.1))).length + 1)) c149))) _ ⟨rfl, rfl, rfl, rfl, rfl, rfl, rfl, trivial⟩ ⟨hE162, ?_⟩ ?_
      ·
        try dsimp only
        refine ⟨by omega, by rw [List.length_set]; exact hvl, hB158, ?_⟩
        rw [zipI_succ, grp_snoc (a := tgt ns es i) hi2]
        exact hF161
      ·
        (try dsimp only); omega
    ·
      refine exit ?_
      refine ke73 _ _ _ ?_
      refine ke63 _ _ _ ?_
      refine kb54 _ _ ?_
      refine kn43 _ _ ?_
      refine seqK fun Q164 kn165 kr166 ke167 => ?_
      refine region ?_
      have hI0 := RowsN.of hOb hF (grp_len _ _)
      have e0 : i = es.length := by omega
      have hI : RowsN w57.heap (.slice (some ⟨w21.heap.size, 0, none⟩) ns.length ns.length) vs (grp (zipI (tgt ns es) es.length) ns.length) := e0 ▸ hI0
      have hN3 := hN2.below hx58
      have hPt := hPs.below hx58
      have hx168 := Below.e hx58 hx24 (Nat.le_refl _)
      have hsz3 := hx168.size
      have hE169 : Below w57.heap.size w57 w57 := Below.refl _ _
      have hz170 := hE169.le
      have hb''' := hb''.ext hx58
      refine st_q (v := .slice none 0 0) (x_assign rfl) ?_
      refine st_nil ?_
      refine kn165 _ _ ?_
      refine seqK fun Q171 kn172 kr173 ke174 => ?_
      refine region ?_
      refine st_q (v := .int .i64 (-1)) (x_assign rfl) ?_
      refine st_nil ?_
      refine kn172 _ _ ?_
      refine seqK fun Q175 kn176 kr177 ke178 => ?_
      refine labelS ?_
      refine kn176 _ _ ?_
      refine seqK fun Q179 kn180 kr181 ke182 => ?_
      refine seqK fun Q183 kn184 kr185 ke186 => ?_
      refine region ?_
      refine st_q (v := .slice b es.length cb) (x_move rfl) ?_
      refine st_q (v := .int .i64 ((es.length : Nat) : Int)) (x_lenSl rfl Try.underlying23 rfl) ?_
      refine st_q (v := .int .i64 ((0 : Nat) : Int)) (x_move rfl) ?_
      refine st_nil ?_
      refine kn184 _ _ ?_
      refine blockK fun Q187 kn188 kr189 kx190 kb191 => ?_
      refine loopK (α := Nat × (List Nat) × Value × Int) (fun x => [(0, .slice b es.length cb), (4, .pointer (some ⟨g, 0, none⟩)), (5, .slice ap ns.length cp), (7, .slice ((some ⟨w21.heap.size, 0, none⟩)) ns.length ns.length), (11, x.2.2.1), (12, .int .i64 x.2.2.2), (61, .slice b es.length cb), (62, .int .i64 ((es.length : Nat) : Int)), (63, .int .i64 ((x.1 : Nat) : Int))]) (fun x w192 => Below w57.heap.size w57 w192 ∧ x.1 ≤ es.length ∧ CI ns es x.1 x.2.1 x.2.2.2 ∧ Own w192.heap w57.heap.size 3 1 x.2.2.1 x.2.1.length (flat enN x.2.1)) (fun x => es.length - x.1) (0, [], .slice none 0 0, (-1)) ⟨rfl, rfl, rfl, rfl, rfl, rfl, rfl, rfl, rfl, trivial⟩ ?_ ?_
      ·
        refine ⟨hE169, ?_⟩
        try dsimp only
        exact ⟨Nat.zero_le _, CI.start ns es, Own.nil _ _ _ _⟩
      ·
        rintro τ193 ⟨i, row, v, least⟩ w194 ⟨hx195, ⟨hi, hC, hO⟩⟩
        try dsimp only at hi hC hO
        have hz196 := hx195.le
        intro Q197 kn198 kr199 ke200
        refine seqK fun Q201 kn202 kr203 ke204 => ?_
        refine region ?_
        refine st_q (v := .bool (decide (i < es.length))) (x_lssN rfl rfl) ?_
        refine st_nil ?_
        refine kn202 _ _ ?_
        refine seqK fun Q205 kn206 kr207 ke208 => ?_
        refine cnd (p := i < es.length) rfl (fun h209 => ?_) (fun h209 => ?_)
        ·
          refine skip ?_
          refine kn206 _ _ ?_
          refine seqK fun Q210 kn211 kr212 ke213 => ?_
          refine blockK fun Q214 kn215 kr216 kx217 kb218 => ?_
          refine seqK fun Q219 kn220 kr221 ke222 => ?_
          refine region ?_
          refine st_q (v := .int .i64 ((i : Nat) : Int)) (x_move rfl) ?_
          obtain ⟨b223, o224, ha225, hc226⟩ := hb'''.at (by omega)
          refine st_q (v := .pointer (some ⟨b223, o224 + i * 3, none⟩)) (x_index' T.sl23 rfl ha225 rfl (by omega)) ?_
          have hi1 : ixS ns (el es i).1 < ns.length := ixS_lt (hends i (by omega)).1
          have hi2 : ixS ns (el es i).2.1 < ns.length := ixS_lt (hends i (by omega)).2
          refine st_q (v := .agg #[.string ((el es i).1), .string ((el es i).2.1), .bool ((el es i).2.2)]) (x_loadA [.string ((el es i).1), .string ((el es i).2.1), .bool ((el es i).2.2)] T.ag47 rfl ((hc226.below hx195).elem enE_len (i := i) (by omega))) ?_
          refine st_e (e_alloc T.zv47 ?_)
          intro w227 hA228
          have hx229 := hA228.ext
          have hs230 := hA228.size
          have hB231 : Blk w227.heap w194.heap.size [.string ByteArray.empty, .string ByteArray.empty, .bool false] 47 := hA228.new
          have hF232 := hO.ext hx229
          have hE233 : Below w57.heap.size w57 w227 := hx229.e hx195 (Nat.le_refl _)
          have hz234 := hE233.le
          have hs235 := hx229.size
          refine st_q (v := .int .i64 ((i : Nat) : Int)) (x_assign rfl) ?_
          refine st_s (e_st (v := .agg #[.string ((el es i).1), .string ((el es i).2.1), .bool ((el es i).2.2)]) T.sz47 rfl rfl hB231 (by simp [Value.cells]) (by rfl) ?_)
          intro w236 hP237
          have hB238 : Blk w236.heap w194.heap.size [.string ((el es i).1), .string ((el es i).2.1), .bool ((el es i).2.2)] 47 := hP237.new
          have hs239 := hP237.size
          have hF240 := hF232.gk (hP237.grownBy) (hB231.rowk) (by decide)
          have hE241 : Below w57.heap.size w57 w236 := hP237.below hE233 (by omega)
          have hz242 := hE241.le
          refine st_nil ?_
          refine kn220 _ _ ?_
          refine seqK fun Q243 kn244 kr245 ke246 => ?_
          refine regionD1 [3, 5, 6, 10, 12, 13] [0, 1, 2, 3, 4, 5, 6, 7, 8, 9, 10, 11, 12, 13, 14, 15] (.one 0 (.one 1 (.one 2 (.one 3 (.one 4 (.one 5 (.one 6 (.one 7 (.one 8 (.one 9 (.one 10 (.one 11 (.one 12 (.one 13 (.one 14 (.one 15 .done)))))))))))))))) (by kernel_rfl) (by kernel_rfl) ?_
          intro w247 hx248 hs249
          have hB250 := hB238.ext hx248
          have hF251 := hF240.ext hx248
          have hE252 : Below w57.heap.size w57 w247 := hx248.e hE241 (Nat.le_refl _)
          have hz253 := hE252.le
          have hs254 := hx248.size
          have hS255 : Ext w247 w247 := Below.refl _ _
          refine d_q (v := .pointer (some ⟨g, 0, none⟩)) rfl rfl (fun _ => x_move rfl) ?_
          refine d_q (v := .pointer (some ⟨g, 0, none⟩)) rfl rfl (fun _ => x_nilCheck rfl) ?_
          refine d_q (v := .pointer (some ⟨g, 1, none⟩)) rfl rfl (fun _ => x_field (o := 0) T.fa65_1 rfl) ?_
          refine d_l (v := .map (some D.bm)) rfl rfl rfl (fun v257 hw256 => x_load1 T.na62 rfl (((hN3.blk.keep (hE252.block _ hN3.blk.lt)).one 1 rfl).ext hw256)) ?_
          refine d_q (v := .pointer (some ⟨w194.heap.size, 0, none⟩)) rfl rfl (fun _ => x_field (o := 0) T.fa47_0 rfl) ?_
          refine d_l (v := .string ((el es i).1)) rfl rfl rfl (fun v259 hw258 => x_load1 T.na9 rfl ((hB250.one 0 rfl).ext hw258)) ?_
          refine d_l (v := .int .i64 (((ixS ns ((el es i).1)) : Nat) : Int)) rfl rfl rfl (fun v261 hw260 => x_lookupM rfl rfl Try.underlying9 Try.underlying3 Try.underlying62 zeroI (OMap.ext (OMap.belowW hN3.map hE252) hw260) (hN3.fitn _ (hends _ (by omega)).1) (hends _ (by omega)).1) ?_
          refine d_q (v := .pointer (some ⟨g, 0, none⟩)) rfl rfl (fun _ => x_move rfl) ?_
          refine d_q (v := .pointer (some ⟨g, 0, none⟩)) rfl rfl (fun _ => x_nilCheck rfl) ?_
          refine d_q (v := .pointer (some ⟨g, 1, none⟩)) rfl rfl (fun _ => x_field (o := 0) T.fa65_1 rfl) ?_
          refine d_l (v := .map (some D.bm)) rfl rfl rfl (fun v263 hw262 => x_load1 T.na62 rfl (((hN3.blk.keep (hE252.block _ hN3.blk.lt)).one 1 rfl).ext hw262)) ?_
          refine d_q (v := .pointer (some ⟨w194.heap.size, 1, none⟩)) rfl rfl (fun _ => x_field (o := 0) T.fa47_1 rfl) ?_
          refine d_l (v := .string ((el es i).2.1)) rfl rfl rfl (fun v265 hw264 => x_load1 T.na9 rfl ((hB250.one 1 rfl).ext hw264)) ?_
          refine d_l (v := .int .i64 (((ixS ns ((el es i).2.1)) : Nat) : Int)) rfl rfl rfl (fun v267 hw266 => x_lookupM rfl rfl Try.underlying9 Try.underlying3 Try.underlying62 zeroI (OMap.ext (OMap.belowW hN3.map hE252) hw266) (hN3.fitn _ (hends _ (by omega)).2) (hends _ (by omega)).2) ?_
          refine d_q (v := .int .i64 (((ixS ns ((el es i).1)) : Nat) : Int)) rfl rfl (fun _ => x_assign rfl) ?_
          refine d_q (v := .int .i64 (((ixS ns ((el es i).2.1)) : Nat) : Int)) rfl rfl (fun _ => x_assign rfl) ?_
          refine d_done ?_
          refine kn244 _ _ ?_
          refine seqK fun Q268 kn269 kr270 ke271 => ?_
          refine seqK fun Q272 kn273 kr274 ke275 => ?_
          refine regionD1 [1, 7, 11] [0, 1, 2, 3, 4, 5, 6, 7, 8, 9, 10, 11, 12, 13] (.one 0 (.one 1 (.one 2 (.one 3 (.one 4 (.one 5 (.one 6 (.one 7 (.one 8 (.one 9 (.one 10 (.one 11 (.one 12 (.one 13 .done)))))))))))))) (by kernel_rfl) (by kernel_rfl) ?_
          intro w276 hx277 hs278
          have hB279 := hB250.ext hx277
          have hF280 := hF251.ext hx277
          have hE281 : Below w57.heap.size w57 w276 := hx277.e hE252 (Nat.le_refl _)
          have hz282 := hE281.le
          have hs283 := hx277.size
          have hS284 : Ext w276 w276 := Below.refl _ _
          refine d_q (v := .pointer (some ⟨w194.heap.size, 2, none⟩)) rfl rfl (fun _ => x_field (o := 0) T.fa47_2 rfl) ?_
          refine d_l (v := .bool ((el es i).2.2)) rfl rfl rfl (fun v286 hw285 => x_load1 T.na4 rfl ((hB279.one 2 rfl).ext hw285)) ?_
          refine d_q (v := .bool (decide (¬ ((el es i).2.2 = true)))) rfl rfl (fun _ => x_notBB rfl) ?_
          refine d_if rfl rfl (p := ¬ ((el es i).2.2 = true)) (fun _ => x_move rfl) (fun h287 => ?_) (fun h287 => ?_)
          ·
            refine d_gn (j := 3) (t := 85) rfl rfl rfl rfl (by decide) rfl ?_
            refine d_gn (j := 3) (t := 85) rfl rfl rfl rfl (by decide) rfl ?_
            refine d_gn (j := 3) (t := 85) rfl rfl rfl rfl (by decide) rfl ?_
            refine d_gn (j := 3) (t := 85) rfl rfl rfl rfl (by decide) rfl ?_
            refine d_gn (j := 3) (t := 85) rfl rfl rfl rfl (by decide) rfl ?_
            refine d_gn (j := 3) (t := 85) rfl rfl rfl rfl (by decide) rfl ?_
            refine d_gn (j := 3) (t := 85) rfl rfl rfl rfl (by decide) rfl ?_
            refine d_gn (j := 3) (t := 85) rfl rfl rfl rfl (by decide) rfl ?_
            refine d_gn (j := 3) (t := 85) rfl rfl rfl rfl (by decide) rfl ?_
            refine d_q (v := .bool true) rfl rfl (fun _ => x_pickT rfl rfl) ?_
            refine d_done ?_
            refine kn273 _ _ ?_
            refine cndT rfl ?_
            refine exit ?_
            refine ke271 _ _ _ ?_
            refine kb218 _ _ ?_
            refine kn211 _ _ ?_
            refine region ?_
            refine st_q (v := .int .i64 (((i + 1) : Nat) : Int)) (x_addN rfl rfl (by omega)) ?_
            refine st_q (v := .int .i64 (((i + 1) : Nat) : Int)) (x_move rfl) ?_
            refine st_nil ?_
            refine kn198 _ ((i + 1), row, v, least) _ ⟨rfl, rfl, rfl, rfl, rfl, rfl, rfl, rfl, rfl, trivial⟩ ⟨hE281, ?_⟩ ?_
            ·
              try dsimp only
              refine ⟨by omega, ?_, hF280⟩
              first | exact hC.skip (fun hn => absurd hn (by assumption)) | exact hC.skip (fun _ => hK.noback (by omega) (by assumption)) | (obtain ⟨d0, hd0, hbd⟩ := hK.backD (by omega) hD hsame; have hd1 : el F (ixS ns (el es i).2.1) = (d0 : Int) := hd0; exact hC.worse (by assumption) hbd (by rw [← hd1]; assumption))
            ·
              (try dsimp only); omega
          ·
            refine d_gq (v := .slice ap ns.length cp) (j := 3) (t := 85) rfl rfl rfl rfl (by decide) (fun _ => x_move rfl) ?_
            refine d_gq (v := .int .i64 (((ixS ns ((el es i).1)) : Nat) : Int)) (j := 3) (t := 85) rfl rfl rfl rfl (by decide) (fun _ => x_move rfl) ?_
            obtain ⟨b288, o289, ha290, hc291⟩ := hPt.at (by omega)
            refine d_gq (v := .pointer (some ⟨b288, o289 + ((ixS ns ((el es i).1))) * 1, none⟩)) (j := 3) (t := 85) rfl rfl rfl rfl (by decide) (fun _ => x_index' T.sl38 rfl ha290 rfl (by omega)) ?_
            refine d_gl (v := .int .i64 (((el Pn ((ixS ns ((el es i).1)))) : Nat) : Int)) (j := 3) (t := 85) rfl rfl rfl rfl rfl (by decide) (fun v293 hw292 => x_load1 T.na3 rfl (((hc291.below hE281).elem enN_len (i := (ixS ns ((el es i).1))) (by omega)).ext hw292)) ?_
            refine d_gq (v := .slice ap ns.length cp) (j := 3) (t := 85) rfl rfl rfl rfl (by decide) (fun _ => x_move rfl) ?_
            refine d_gq (v := .int .i64 (((ixS ns ((el es i).2.1)) : Nat) : Int)) (j := 3) (t := 85) rfl rfl rfl rfl (by decide) (fun _ => x_move rfl) ?_
            refine d_gq (v := .pointer (some ⟨b288, o289 + ((ixS ns ((el es i).2.1))) * 1, none⟩)) (j := 3) (t := 85) rfl rfl rfl rfl (by decide) (fun _ => x_index' T.sl38 rfl ha290 rfl (by omega)) ?_
            refine d_gl (v := .int .i64 (((el Pn ((ixS ns ((el es i).2.1)))) : Nat) : Int)) (j := 3) (t := 85) rfl rfl rfl rfl rfl (by decide) (fun v295 hw294 => x_load1 T.na3 rfl (((hc291.below hE281).elem enN_len (i := (ixS ns ((el es i).2.1))) (by omega)).ext hw294)) ?_
            refine d_gq (v := .bool (decide (((el Pn ((ixS ns ((el es i).1))))) ≠ ((el Pn ((ixS ns ((el es i).2.1)))))))) (j := 3) (t := 85) rfl rfl rfl rfl (by decide) (fun _ => x_neqN rfl rfl) ?_
            refine d_q (v := .bool (decide (((el Pn ((ixS ns ((el es i).1))))) ≠ ((el Pn ((ixS ns ((el es i).2.1)))))))) rfl rfl (fun _ => x_pickF rfl rfl) ?_
            refine d_done ?_
            refine kn273 _ _ ?_
            refine cnd (p := ((el Pn ((ixS ns ((el es i).1))))) ≠ ((el Pn ((ixS ns ((el es i).2.1)))))) rfl (fun h296 => ?_) (fun h296 => ?_)
            ·
              refine exit ?_
              refine ke271 _ _ _ ?_
              refine kb218 _ _ ?_
              refine kn211 _ _ ?_
              refine region ?_
              refine st_q (v := .int .i64 (((i + 1) : Nat) : Int)) (x_addN rfl rfl (by omega)) ?_
              refine st_q (v := .int .i64 (((i + 1) : Nat) : Int)) (x_move rfl) ?_
              refine st_nil ?_
              refine kn198 _ ((i + 1), row, v, least) _ ⟨rfl, rfl, rfl, rfl, rfl, rfl, rfl, rfl, rfl, trivial⟩ ⟨hE281, ?_⟩ ?_
              ·
                try dsimp only
                refine ⟨by omega, ?_, hF280⟩
                first | exact hC.skip (fun hn => absurd hn (by assumption)) | exact hC.skip (fun _ => hK.noback (by omega) (by assumption)) | (obtain ⟨d0, hd0, hbd⟩ := hK.backD (by omega) hD hsame; have hd1 : el F (ixS ns (el es i).2.1) = (d0 : Int) := hd0; exact hC.worse (by assumption) hbd (by rw [← hd1]; assumption))
              ·
                (try dsimp only); omega
            ·
              refine skip ?_
              refine kn269 _ _ ?_
              refine seqK fun Q297 kn298 kr299 ke300 => ?_
              refine region ?_
              refine st_q (v := .pointer (some ⟨g, 0, none⟩)) (x_move rfl) ?_
              refine st_q (v := .slice b es.length cb) (x_move rfl) ?_
              refine st_q (v := .slice ((some ⟨w21.heap.size, 0, none⟩)) ns.length ns.length) (x_move rfl) ?_
              refine st_q (v := .int .i64 (((ixS ns ((el es i).1)) : Nat) : Int)) (x_move rfl) ?_
              have hsame : pF ns es Pn i = pT ns es Pn i := Decidable.of_not_not (by assumption)
              have hneg : (el es i).2.2 = true := Decidable.of_not_not (by assumption)
              refine st_c (t_call [.pointer (some ⟨g, 0, none⟩), .slice b es.length cb, .slice ((some ⟨w21.heap.size, 0, none⟩)) ns.length ns.length, .int .i64 (((ixS ns ((el es i).1)) : Nat) : Int)] T.cf46 rfl rfl) (back46 ns es g (ixS ns (el es i).1) D _ _ vs _ (hN3.below hE281) (hb'''.below hE281) (hI.below hE281) hi1) ?_
              rintro _ w301 ⟨vf303, F, rfl, hx302, hD, hFr, hO304⟩
              refine ⟨_, rfl, ?_⟩
              have hFl := hD.len
              have hB305 := hB279.ext hx302
              have hF306 := hF280.ext hx302
              have hE307 : Below w57.heap.size w57 w301 := hx302.e hE281 (Nat.le_refl _)
              have hz308 := hE307.le
              have hs309 := hx302.size
              obtain ⟨a310, c311, rfl, _, _⟩ := hO304.src.form
              obtain ⟨lo312, hlo312, hlo3122, hO3042⟩ : ∃ l, w57.heap.size ≤ l ∧ l ≤ w301.heap.size ∧ Own w301.heap l 3 1 (.slice a310 ns.length c311) ns.length (flat enI F) := ⟨_, by omega, by omega, hO304⟩
              have hvS : ∀ b, (Value.slice a310 ns.length c311).ownBlock = some b → b < w301.heap.size := fun b hb => (hO3042.lt hb).2
              refine st_q (v := .slice a310 ns.length c311) (x_assign rfl) ?_
              refine st_nil ?_
              refine kn298 _ _ ?_
              refine seqK fun Q313 kn314 kr315 ke316 => ?_
              refine seqK fun Q317 kn318 kr319 ke320 => ?_
              refine region ?_
              refine st_q (v := .int .i64 least) (x_move rfl) ?_
              refine st_q (v := .bool (decide (0 ≤ least))) (x_geq rfl rfl) ?_
              refine st_if (p := 0 ≤ least) (x_move rfl) (fun h321 => ?_) (fun h321 => ?_)
              ·
                refine st_gq 2 103 rfl rfl (by decide) ?_
                refine st_q (v := .slice a310 ns.length c311) (x_move rfl) ?_
                refine st_gq 2 103 rfl rfl (by decide) ?_
                refine st_q (v := .int .i64 (((ixS ns ((el es i).2.1)) : Nat) : Int)) (x_move rfl) ?_
                refine st_gq 2 103 rfl rfl (by decide) ?_
                obtain ⟨b322, o323, ha324, hc325⟩ := hO3042.src.at (by omega)
                refine st_q (v := .pointer (some ⟨b322, o323 + ((ixS ns ((el es i).2.1))) * 1, none⟩)) (x_index' T.sl38 rfl ha324 rfl (by omega)) ?_
                refine st_gq 2 103 rfl rfl (by decide) ?_
                refine st_q (v := .int .i64 ((el F ((ixS ns ((el es i).2.1)))))) (x_load1 T.na3 rfl (hc325.elem enI_len (i := (ixS ns ((el es i).2.1))) (by omega))) ?_
                refine st_gq 2 103 rfl rfl (by decide) ?_
                refine st_q (v := .int .i64 least) (x_move rfl) ?_
                refine st_gq 2 103 rfl rfl (by decide) ?_
                refine st_q (v := .bool (decide (least ≤ ((el F ((ixS ns ((el es i).2.1)))))))) (x_geq rfl rfl) ?_
                refine st_q (v := .bool (decide (least ≤ ((el F ((ixS ns ((el es i).2.1)))))))) (x_pickT rfl rfl) ?_
                refine st_nil ?_
                refine kn318 _ _ ?_
                refine cnd (p := least ≤ ((el F ((ixS ns ((el es i).2.1)))))) rfl (fun h326 => ?_) (fun h326 => ?_)
                ·
                  refine exit ?_
                  refine ke316 _ _ _ ?_
                  refine kb218 _ _ ?_
                  refine kn211 _ _ ?_
                  refine region ?_
                  refine st_q (v := .int .i64 (((i + 1) : Nat) : Int)) (x_addN rfl rfl (by omega)) ?_
                  refine st_q (v := .int .i64 (((i + 1) : Nat) : Int)) (x_move rfl) ?_
                  refine st_nil ?_
                  refine kn198 _ ((i + 1), row, v, least) _ ⟨rfl, rfl, rfl, rfl, rfl, rfl, rfl, rfl, rfl, trivial⟩ ⟨hE307, ?_⟩ ?_
                  ·
                    try dsimp only
                    refine ⟨by omega, ?_, hF306⟩
                    first | exact hC.skip (fun hn => absurd hn (by assumption)) | exact hC.skip (fun _ => hK.noback (by omega) (by assumption)) | (obtain ⟨d0, hd0, hbd⟩ := hK.backD (by omega) hD hsame; have hd1 : el F (ixS ns (el es i).2.1) = (d0 : Int) := hd0; exact hC.worse (by assumption) hbd (by rw [← hd1]; assumption))
                  ·
                    (try dsimp only); omega
                ·
                  refine skip ?_
                  refine kn314 _ _ ?_
                  refine seqK fun Q327 kn328 kr329 ke330 => ?_
                  refine region ?_
                  refine st_q (v := .slice a310 ns.length c311) (x_move rfl) ?_
                  refine st_q (v := .int .i64 (((ixS ns ((el es i).2.1)) : Nat) : Int)) (x_move rfl) ?_
                  obtain ⟨b331, o332, ha333, hc334⟩ := hO3042.src.at (by omega)
                  refine st_q (v := .pointer (some ⟨b331, o332 + ((ixS ns ((el es i).2.1))) * 1, none⟩)) (x_index' T.sl38 rfl ha333 rfl (by omega)) ?_
                  refine st_q (v := .int .i64 ((el F ((ixS ns ((el es i).2.1)))))) (x_load1 T.na3 rfl (hc334.elem enI_len (i := (ixS ns ((el es i).2.1))) (by omega))) ?_
                  refine st_q (v := .int .i64 ((el F ((ixS ns ((el es i).2.1)))))) (x_assign rfl) ?_
                  refine st_nil ?_
                  refine kn328 _ _ ?_
                  refine seqK fun Q335 kn336 kr337 ke338 => ?_
                  refine region ?_
                  refine st_q (v := .int .i64 ((i : Nat) : Int)) (x_move rfl) ?_
                  refine st_e (e_buildSlice (cs := [.int .i64 ((i : Nat) : Int)]) (e := 3) (fun _ => by kernel_rfl) ?_)
                  intro w339 hA340
                  have hx341 := hA340.ext
                  have hs342 := hA340.size
                  have hB343 : Blk w339.heap w301.heap.size [.int .i64 ((i : Nat) : Int)] 3 := hA340.new
                  have hB344 := hB305.ext hx341
                  have hF345 := hF306.ext hx341
                  have hF346 := hO3042.ext hx341
                  have hF347 := hc325.ext hx341
                  have hF348 := hc334.ext hx341
                  have hE349 : Below w57.heap.size w57 w339 := hx341.e hE307 (Nat.le_refl _)
                  have hz350 := hE349.le
                  have hs351 := hx341.size
                  refine st_q (v := .slice ((some ⟨w301.heap.size, 0, none⟩)) 1 1) (x_assign rfl) ?_
                  refine st_nil ?_
                  refine kn336 _ _ ?_
                  refine seqK fun Q352 kn353 kr354 ke355 => ?_
                  refine region ?_
                  refine st_q (v := .int .i64 (((ixS ns ((el es i).2.1)) : Nat) : Int)) (x_move rfl) ?_
                  refine st_q (v := .int .i64 (((ixS ns ((el es i).2.1)) : Nat) : Int)) (x_assign rfl) ?_
                  refine st_nil ?_
                  refine kn353 _ _ ?_
                  refine blockK fun Q356 kn357 kr358 kx359 kb360 => ?_
                  refine loopK (α := Nat × (List Nat) × Value) (fun x => [(0, .slice b es.length cb), (4, .pointer (some ⟨g, 0, none⟩)), (5, .slice ap ns.length cp), (7, .slice ((some ⟨w21.heap.size, 0, none⟩)) ns.length ns.length), (11, x.2.2), (12, .int .i64 ((el F ((ixS ns ((el es i).2.1)))))), (15, .int .i64 (((ixS ns ((el es i).1)) : Nat) : Int)), (17, .slice a310 ns.length c311), (18, .int .i64 ((x.1 : Nat) : Int)), (61, .slice b es.length cb), (62, .int .i64 ((es.length : Nat) : Int)), (63, .int .i64 ((i : Nat) : Int))]) (fun x w361 => Below w57.heap.size w57 w361 ∧ (w301.heap.size < w361.heap.size ∧ ((x.2.1.length : Nat) : Int) + el F x.1 = el F (ixS ns (el es i).2.1) ∧ PI ns es F (ixS ns (el es i).2.1) x.1 x.2.1 ∧ Own w361.heap w301.heap.size 3 1 x.2.2 (x.2.1.length + 1) (flat enN (i :: x.2.1))) ∧ Own w361.heap lo312 3 1 (.slice a310 ns.length c311) ns.length (flat enI F)) (fun x => (el F x.1).toNat) ((ixS ns (el es i).2.1), [], .slice ((some ⟨w301.heap.size, 0, none⟩)) 1 1) ⟨rfl, rfl, rfl, rfl, rfl, rfl, rfl, rfl, rfl, rfl, rfl, rfl, trivial⟩ ?_ ?_
                  ·
                    refine ⟨hE349, ?_⟩
                    try dsimp only
                    refine ⟨?_, hF346⟩
                    obtain ⟨d0, hd0, hbd⟩ := hK.backD (by omega) hD hsame
                    have hd1 : el F (ixS ns (el es i).2.1) = (d0 : Int) := hd0
                    exact ⟨by omega, by simp, PI.start hi2 (by omega), Blk.own1 (k := 1) (m := 1) hB343 rfl (by omega)⟩
                  ·
                    rintro τ362 ⟨at_, pre, v3⟩ w363 ⟨hx365, ⟨⟨hlr, hpl, hPI, hR⟩, hC364⟩⟩
                    try dsimp only at hlr hpl hPI hR hC364
                    have hz366 := hx365.le
                    intro Q367 kn368 kr369 ke370
                    obtain ⟨a371, c372, rfl, hm373, hm374⟩ := hR.src.form
                    have hatn := hPI.1
                    have hat0 := hPI.2.1
                    have hatF := hFr at_ hatn
                    have hatT := hFr _ hi2
                    refine seqK fun Q375 kn376 kr377 ke378 => ?_
                    refine seqK fun Q379 kn380 kr381 ke382 => ?_
                    refine region ?_
                    refine st_q (v := .int .i64 ((at_ : Nat) : Int)) (x_move rfl) ?_
                    refine st_q (v := .int .i64 (((ixS ns ((el es i).1)) : Nat) : Int)) (x_move rfl) ?_
                    refine st_q (v := .bool (decide (at_ ≠ ((ixS ns ((el es i).1)))))) (x_neqN rfl rfl) ?_
                    refine st_nil ?_
                    refine kn380 _ _ ?_
                    refine cnd (p := at_ ≠ ((ixS ns ((el es i).1)))) rfl (fun h383 => ?_) (fun h383 => ?_)
                    ·
                      refine skip ?_
                      refine kn376 _ _ ?_
                      refine blockK fun Q384 kn385 kr386 kx387 kb388 => ?_
                      refine seqK fun Q389 kn390 kr391 ke392 => ?_
                      refine region ?_
                      refine st_q (v := .pointer (some ⟨g, 0, none⟩)) (x_move rfl) ?_
                      refine st_q (v := .pointer (some ⟨g, 0, none⟩)) (x_nilCheck rfl) ?_
                      refine st_q (v := .pointer (some ⟨g, 2, none⟩)) (x_field (o := 0) T.fa65_2 rfl) ?_
                      have hrl := row_le ns es at_
                      have hpos : 0 < el F at_ := by
                        rcases Int.lt_or_le 0 (el F at_) with h | h
                        · exact h
                        · exact absurd (hD.zero hatn (by omega)) (by assumption)
                      refine st_q (v := .slice ((some ⟨D.bo, 0, none⟩)) ns.length ns.length) (x_load1 T.na63 rfl ((hN3.blk.keep (hx365.block _ hN3.blk.lt)).one 2 rfl)) ?_
                      refine st_q (v := .int .i64 ((at_ : Nat) : Int)) (x_move rfl) ?_
                      refine st_q (v := .pointer (some ⟨D.bo, 0 + at_ * 1, none⟩)) (x_index T.sl63 rfl rfl (by omega)) ?_
                      obtain ⟨q393, c394, e395, hs396⟩ := hN3.rows at_ (by omega)
                      have hcp397 := hs396.capl
                      refine st_q (v := .slice q393 ((rowS ns es at_).length) c394) (x_load1 T.na38 rfl (Cells.conv (((hN3.out).below hx365).elem enV_len (i := at_) (by have := hN3.vlen; omega)) e395)) ?_
                      refine st_q (v := .int .i64 (((rowS ns es at_).length : Nat) : Int)) (x_lenSl rfl Try.underlying38 rfl) ?_
                      refine st_q (v := .int .i64 ((0 : Nat) : Int)) (x_move rfl) ?_
                      refine st_nil ?_
                      refine kn390 _ _ ?_
                      refine blockK fun Q398 kn399 kr400 kx401 kb402 => ?_
                      refine loopK (α := Nat) (fun x => [(0, .slice b es.length cb), (4, .pointer (some ⟨g, 0, none⟩)), (5, .slice ap ns.length cp), (7, .slice ((some ⟨w21.heap.size, 0, none⟩)) ns.length ns.length), (11, .slice a371 ((pre.length + 1)) c372), (12, .int .i64 ((el F ((ixS ns ((el es i).2.1)))))), (15, .int .i64 (((ixS ns ((el es i).1)) : Nat) : Int)), (17, .slice a310 ns.length c311), (18, .int .i64 ((at_ : Nat) : Int)), (61, .slice b es.length cb), (62, .int .i64 ((es.length : Nat) : Int)), (63, .int .i64 ((i : Nat) : Int)), (127, .slice q393 ((rowS ns es at_).length) c394), (128, .int .i64 (((rowS ns es at_).length : Nat) : Int)), (129, .int .i64 ((x : Nat) : Int))]) (fun x w403 => Ext w363 w403 ∧ x ≤ (rowS ns es at_).length ∧ ∀ z, z < x → el F (tgt ns es (el (rowS ns es at_) z)) ≠ el F at_ - 1) (fun x => (rowS ns es at_).length - x) (0) ⟨rfl, rfl, rfl, rfl, rfl, rfl, rfl, rfl, rfl, rfl, rfl, rfl, rfl, rfl, rfl, trivial⟩ ?_ ?_
                      ·
                        refine ⟨Below.refl _ _, ?_⟩
                        try dsimp only
                        exact ⟨Nat.zero_le _, fun x hx => by omega⟩
                      ·
                        rintro τ404 j w405 ⟨hx406, ⟨hj, hJ⟩⟩
                        try dsimp only at hj hJ
                        have hF407 := hC364.ext hx406
                        have hF408 := hR.ext hx406
                        have hE409 : Below w57.heap.size w57 w405 := hx406.e hx365 (Nat.le_refl _)
                        have hz410 := hE409.le
                        have hs411 := hx406.size
                        intro Q412 kn413 kr414 ke415
                        refine seqK fun Q416 kn417 kr418 ke419 => ?_
                        refine region ?_
                        refine st_q (v := .bool (decide (j < ((rowS ns es at_).length)))) (x_lssN rfl rfl) ?_
                        refine st_nil ?_
                        refine kn417 _ _ ?_
                        refine seqK fun Q420 kn421 kr422 ke423 => ?_
                        refine cnd (p := j < ((rowS ns es at_).length)) rfl (fun h424 => ?_) (fun h424 => ?_)
                        ·
                          refine skip ?_
                          refine kn421 _ _ ?_
                          refine seqK fun Q425 kn426 kr427 ke428 => ?_
                          refine blockK fun Q429 kn430 kr431 kx432 kb433 => ?_
                          refine seqK fun Q434 kn435 kr436 ke437 => ?_
                          refine region ?_
                          obtain ⟨b438, o439, ha440, hc441⟩ := hs396.at (by omega)
                          refine st_q (v := .pointer (some ⟨b438, o439 + j * 1, none⟩)) (x_index' T.sl38 rfl ha440 rfl (by omega)) ?_
                          have hek := row_lt (ns := ns) (es := es) (a := at_) (k := j) (by omega)
                          have hek1 := hek.1
                          have htl : ixS ns (el es (el (rowS ns es at_) j)).2.1 < ns.length := ixS_lt (hends _ hek1).2
                          refine st_q (v := .int .i64 (((el (rowS ns es at_) j) : Nat) : Int)) (x_load1 T.na3 rfl ((hc441.below hE409).elem enN_len (i := j) (by omega))) ?_
                          refine st_q (v := .int .i64 (((el (rowS ns es at_) j) : Nat) : Int)) (x_assign rfl) ?_
                          refine st_nil ?_
                          refine kn435 _ _ ?_
                          refine seqK fun Q442 kn443 kr444 ke445 => ?_
                          refine regionD1 [3, 8, 9] [0, 1, 2, 3, 4, 5, 6, 7, 8, 9, 10] (.one 0 (.one 1 (.one 2 (.one 3 (.one 4 (.one 5 (.one 6 (.one 7 (.one 8 (.one 9 (.one 10 .done))))))))))) (by kernel_rfl) (by kernel_rfl) ?_
                          intro w446 hx447 hs448
                          have hF449 := hF407.ext hx447
                          have hF450 := hF408.ext hx447
                          have hF451 := hx447.e hx406 (Nat.le_refl _)
                          have hE452 : Below w57.heap.size w57 w446 := hx447.e hE409 (Nat.le_refl _)
                          have hz453 := hE452.le
                          have hs454 := hx447.size
                          have hS455 : Ext w446 w446 := Below.refl _ _
                          refine d_q (v := .pointer (some ⟨g, 0, none⟩)) rfl rfl (fun _ => x_move rfl) ?_
                          refine d_q (v := .pointer (some ⟨g, 0, none⟩)) rfl rfl (fun _ => x_nilCheck rfl) ?_
                          refine d_q (v := .pointer (some ⟨g, 1, none⟩)) rfl rfl (fun _ => x_field (o := 0) T.fa65_1 rfl) ?_
                          refine d_l (v := .map (some D.bm)) rfl rfl rfl (fun v457 hw456 => x_load1 T.na62 rfl (((hN3.blk.keep (hE452.block _ hN3.blk.lt)).one 1 rfl).ext hw456)) ?_
                          refine d_q (v := .slice b es.length cb) rfl rfl (fun _ => x_move rfl) ?_
                          refine d_q (v := .int .i64 (((el (rowS ns es at_) j) : Nat) : Int)) rfl rfl (fun _ => x_move rfl) ?_
                          refine d_q (v := .pointer (some ⟨b223, o224 + ((el (rowS ns es at_) j)) * 3, none⟩)) rfl rfl (fun _ => x_index' T.sl23 rfl ha225 rfl (by omega)) ?_
                          refine d_q (v := .pointer (some ⟨b223, o224 + ((el (rowS ns es at_) j)) * 3 + 1, none⟩)) rfl rfl (fun _ => x_field (o := o224 + ((el (rowS ns es at_) j)) * 3) T.fa47_1 rfl) ?_
                          refine d_l (v := .string ((el es ((el (rowS ns es at_) j))).2.1)) rfl rfl rfl (fun v459 hw458 => x_load1 T.na9 rfl ((((hc226.below hE452).elem enE_len (i := (el (rowS ns es at_) j)) (by omega)).fld 1 rfl).ext hw458)) ?_
                          refine d_l (v := .int .i64 (((ixS ns ((el es ((el (rowS ns es at_) j))).2.1)) : Nat) : Int)) rfl rfl rfl (fun v461 hw460 => x_lookupM rfl rfl Try.underlying9 Try.underlying3 Try.underlying62 zeroI (OMap.ext (OMap.belowW hN3.map hE452) hw460) (hN3.fitn _ (hends _ hek1).2) (hends _ hek1).2) ?_
                          refine d_q (v := .int .i64 (((ixS ns ((el es ((el (rowS ns es at_) j))).2.1)) : Nat) : Int)) rfl rfl (fun _ => x_assign rfl) ?_
                          refine d_done ?_
                          refine kn443 _ _ ?_
                          refine seqK fun Q462 kn463 kr464 ke465 => ?_
                          refine regionD1 [3, 7] [0, 1, 2, 3, 4, 5, 6, 7, 8, 9] (.one 0 (.one 1 (.one 2 (.one 3 (.one 4 (.one 5 (.one 6 (.one 7 (.one 8 (.one 9 .done)))))))))) (by kernel_rfl) (by kernel_rfl) ?_
                          intro w466 hx467 hs468
                          have hF469 := hF449.ext hx467
                          have hF470 := hF450.ext hx467
                          have hF471 := hx467.e hF451 (Nat.le_refl _)
                          have hE472 : Below w57.heap.size w57 w466 := hx467.e hE452 (Nat.le_refl _)
                          have hz473 := hE472.le
                          have hs474 := hx467.size
                          have hS475 : Ext w466 w466 := Below.refl _ _
                          refine d_q (v := .slice a310 ns.length c311) rfl rfl (fun _ => x_move rfl) ?_
                          refine d_q (v := .int .i64 (((ixS ns ((el es ((el (rowS ns es at_) j))).2.1)) : Nat) : Int)) rfl rfl (fun _ => x_move rfl) ?_
                          obtain ⟨b476, o477, ha478, hc479⟩ := hF469.src.at (by omega)
                          refine d_q (v := .pointer (some ⟨b476, o477 + ((ixS ns ((el es ((el (rowS ns es at_) j))).2.1))) * 1, none⟩)) rfl rfl (fun _ => x_index' T.sl38 rfl ha478 rfl (by omega)) ?_
                          refine d_l (v := .int .i64 ((el F ((ixS ns ((el es ((el (rowS ns es at_) j))).2.1)))))) rfl rfl rfl (fun v481 hw480 => x_load1 T.na3 rfl ((hc479.elem enI_len (i := (ixS ns ((el es ((el (rowS ns es at_) j))).2.1))) (by omega)).ext hw480)) ?_
                          refine d_q (v := .slice a310 ns.length c311) rfl rfl (fun _ => x_move rfl) ?_
                          refine d_q (v := .int .i64 ((at_ : Nat) : Int)) rfl rfl (fun _ => x_move rfl) ?_
                          obtain ⟨b482, o483, ha484, hc485⟩ := hF469.src.at (by omega)
                          refine d_q (v := .pointer (some ⟨b482, o483 + at_ * 1, none⟩)) rfl rfl (fun _ => x_index' T.sl38 rfl ha484 rfl (by omega)) ?_
                          refine d_l (v := .int .i64 ((el F at_))) rfl rfl rfl (fun v487 hw486 => x_load1 T.na3 rfl ((hc485.elem enI_len (i := at_) (by omega)).ext hw486)) ?_
                          refine d_q (v := .int .i64 (((el F at_) - 1))) rfl rfl (fun _ => x_sub rfl rfl ⟨by omega, by omega⟩) ?_
                          refine d_q (v := .bool (decide (((el F ((ixS ns ((el es ((el (rowS ns es at_) j))).2.1))))) = (((el F at_) - 1))))) rfl rfl (fun _ => x_eql rfl rfl) ?_
                          refine d_done ?_
                          refine kn463 _ _ ?_
                          refine cnd (p := ((el F ((ixS ns ((el es ((el (rowS ns es at_) j))).2.1))))) = (((el F at_) - 1))) rfl (fun h488 => ?_) (fun h488 => ?_)
                          ·
                            refine seqK fun Q489 kn490 kr491 ke492 => ?_
                            refine region ?_
                            refine st_q (v := .slice a371 ((pre.length + 1)) c372) (x_move rfl) ?_
                            refine st_q (v := .int .i64 (((el (rowS ns es at_) j) : Nat) : Int)) (x_move rfl) ?_
                            refine st_e (e_buildSlice (cs := [.int .i64 (((el (rowS ns es at_) j) : Nat) : Int)]) (e := 3) (fun _ => by kernel_rfl) ?_)
                            intro w493 hA494
                            have hx495 := hA494.ext
                            have hs496 := hA494.size
                            have hB497 : Blk w493.heap w466.heap.size [.int .i64 (((el (rowS ns es at_) j) : Nat) : Int)] 3 := hA494.new
                            have hF498 := hF469.ext hx495
                            have hF499 := hF470.ext hx495
                            have hF500 := hx495.e hF471 (Nat.le_refl _)
                            have hF501 := hc479.ext hx495
                            have hF502 := hc485.ext hx495
                            have hE503 : Below w57.heap.size w57 w493 := hx495.e hE472 (Nat.le_refl _)
                            have hz504 := hE503.le
                            have hs505 := hx495.size
                            refine st_e (e_appendX T.sl38 rfl rfl hF499 (hB497.src1 (k := 1) (m := 1) rfl (by omega)) (ones (by rfl)) (by omega) (by decide) (by omega) ?_)
                            intro v506 w507 hO508 hG509 hN510 hW511
                            have hF512 := hF498.grown hG509 (fun b hb e => by have := (hF499.lt e); have := (hF498.lt hb); first | (clear e hb; omega) | (have := hvS _ hb; clear e hb; omega))
                            have hE516 : Below w57.heap.size w57 w507 := grown_below hG509 hE503 (Nat.le_refl _) (fun b hb => (by have := (hF499.lt hb).1; clear hb; omega))
                            have hz517 := hE516.le
                            have hs518 := hG509.size
                            have hO519 := Own.snoc (enc := enN) (u := (el (rowS ns es at_) j)) hO508
                            obtain ⟨a520, c521, rfl, hm522, hm523⟩ := hO519.src.form
                            refine st_q (v := .slice a520 (((pre.length + 1) + 1)) c521) (x_assign rfl) ?_
                            refine st_nil ?_
                            refine kn490 _ _ ?_
                            refine seqK fun Q524 kn525 kr526 ke527 => ?_
                            refine region ?_
                            refine st_q (v := .int .i64 (((ixS ns ((el es ((el (rowS ns es at_) j))).2.1)) : Nat) : Int)) (x_move rfl) ?_
                            refine st_q (v := .int .i64 (((ixS ns ((el es ((el (rowS ns es at_) j))).2.1)) : Nat) : Int)) (x_assign rfl) ?_
                            refine st_nil ?_
                            refine kn525 _ _ ?_
                            refine exit ?_
                            refine kx432 _ _ _ rfl ?_
                            refine ke428 _ _ _ ?_
                            refine ke415 _ _ _ ?_
                            refine kb402 _ _ ?_
                            refine kn385 _ _ ?_
                            refine kn368 _ ((ixS ns (el es (el (rowS ns es at_) j)).2.1), (pre ++ [el (rowS ns es at_) j]), .slice a520 (((pre.length + 1) + 1)) c521) _ ⟨rfl, rfl, rfl, rfl, rfl, rfl, rfl, rfl, rfl, rfl, rfl, rfl, trivial⟩ ⟨hE516, ?_⟩ ?_
                            ·
                              try dsimp only
                              refine ⟨?_, hF512⟩
                              have hq := hPI.step hends hpos (by omega) (by assumption) hJ
                              exact ⟨by omega, by rw [List.length_append]; simp only [List.length_singleton]; have hq2 : el F (ixS ns (el es (el (rowS ns es at_) j)).2.1) = el F at_ - 1 := (by assumption); omega, hq, by rw [List.length_append]; exact hO519⟩
                            ·
                              have hq : el F (ixS ns (el es (el (rowS ns es at_) j)).2.1) = el F at_ - 1 := by assumption
                              (try dsimp only)
                              omega
                          ·
                            refine skip ?_
                            refine kn430 _ _ ?_
                            refine kn426 _ _ ?_
                            refine region ?_
                            refine st_q (v := .int .i64 (((j + 1) : Nat) : Int)) (x_addN rfl rfl (by omega)) ?_
                            refine st_q (v := .int .i64 (((j + 1) : Nat) : Int)) (x_move rfl) ?_
                            refine st_nil ?_
                            refine kn413 _ ((j + 1)) _ ⟨rfl, rfl, rfl, rfl, rfl, rfl, rfl, rfl, rfl, rfl, rfl, rfl, rfl, rfl, rfl, trivial⟩ ⟨hF471, ?_⟩ ?_
                            ·
                              try dsimp only
                              refine ⟨by omega, fun z hz => ?_⟩
                              by_cases e : z = j
                              · subst e; assumption
                              · exact hJ z (by omega)
                            ·
                              (try dsimp only); omega
                        ·
                          exact absurd h424 (not_not_intro (hD.found hends hatn hpos hJ))
                    ·
                      refine exit ?_
                      refine ke378 _ _ _ ?_
                      refine ke370 _ _ _ ?_
                      refine kb360 _ _ ?_
                      refine kn215 _ _ ?_
                      refine kn211 _ _ ?_
                      refine region ?_
                      refine st_q (v := .int .i64 (((i + 1) : Nat) : Int)) (x_addN rfl rfl (by omega)) ?_
                      refine st_q (v := .int .i64 (((i + 1) : Nat) : Int)) (x_move rfl) ?_
                      refine st_nil ?_
                      refine kn198 _ ((i + 1), (i :: pre), .slice a371 ((pre.length + 1)) c372, (el F ((ixS ns ((el es i).2.1))))) _ ⟨rfl, rfl, rfl, rfl, rfl, rfl, rfl, rfl, rfl, trivial⟩ ⟨hx365, ?_⟩ ?_
                      ·
                        try dsimp only
                        obtain rfl : at_ = (ixS ns (el es i).1) := by omega
                        obtain ⟨d0, hd0, hbd⟩ := hK.backD (by omega) hD hsame
                        have hd1 : el F (ixS ns (el es i).2.1) = (d0 : Int) := hd0
                        rw [hd1]
                        exact ⟨by omega, hC.better hneg hbd (by first | exact .inl (by assumption) | exact .inr (fun h => absurd (show least ≤ el F (ixS ns (el es i).2.1) by rw [hd1]; exact h) (by assumption))) ⟨F, hD, hPI.done hD hi1⟩, hR.weak (by omega)⟩
                      ·
                        (try dsimp only); omega
              ·
                refine st_gn 2 103 rfl rfl (by decide) rfl ?_
                refine st_gn 2 103 rfl rfl (by decide) rfl ?_
                refine st_gn 2 103 rfl rfl (by decide) rfl ?_
                refine st_gn 2 103 rfl rfl (by decide) rfl ?_
                refine st_gn 2 103 rfl rfl (by decide) rfl ?_
                refine st_gn 2 103 rfl rfl (by decide) rfl ?_
                refine st_q (v := .bool false) (x_pickF rfl rfl) ?_
                refine st_nil ?_
                refine kn318 _ _ ?_
                refine cndF rfl ?_
                refine skip ?_
                refine kn314 _ _ ?_
                refine seqK fun Q528 kn529 kr530 ke531 => ?_
                refine region ?_
                refine st_q (v := .slice a310 ns.length c311) (x_move rfl) ?_
                refine st_q (v := .int .i64 (((ixS ns ((el es i).2.1)) : Nat) : Int)) (x_move rfl) ?_
                obtain ⟨b532, o533, ha534, hc535⟩ := hO3042.src.at (by omega)
                refine st_q (v := .pointer (some ⟨b532, o533 + ((ixS ns ((el es i).2.1))) * 1, none⟩)) (x_index' T.sl38 rfl ha534 rfl (by omega)) ?_
                refine st_q (v := .int .i64 ((el F ((ixS ns ((el es i).2.1)))))) (x_load1 T.na3 rfl (hc535.elem enI_len (i := (ixS ns ((el es i).2.1))) (by omega))) ?_
                refine st_q (v := .int .i64 ((el F ((ixS ns ((el es i).2.1)))))) (x_assign rfl) ?_
                refine st_nil ?_
                refine kn529 _ _ ?_
                refine seqK fun Q536 kn537 kr538 ke539 => ?_
                refine region ?_
                refine st_q (v := .int .i64 ((i : Nat) : Int)) (x_move rfl) ?_
                refine st_e (e_buildSlice (cs := [.int .i64 ((i : Nat) : Int)]) (e := 3) (fun _ => by kernel_rfl) ?_)
                intro w540 hA541
                have hx542 := hA541.ext
                have hs543 := hA541.size
                have hB544 : Blk w540.heap w301.heap.size [.int .i64 ((i : Nat) : Int)] 3 := hA541.new
                have hB545 := hB305.ext hx542
                have hF546 := hF306.ext hx542
                have hF547 := hO3042.ext hx542
                have hF548 := hc535.ext hx542
                have hE549 : Below w57.heap.size w57 w540 := hx542.e hE307 (Nat.le_refl _)
                have hz550 := hE549.le
                have hs551 := hx542.size
                refine st_q (v := .slice ((some ⟨w301.heap.size, 0, none⟩)) 1 1) (x_assign rfl) ?_
                refine st_nil ?_
                refine kn537 _ _ ?_
                refine seqK fun Q552 kn553 kr554 ke555 => ?_
                refine region ?_
                refine st_q (v := .int .i64 (((ixS ns ((el es i).2.1)) : Nat) : Int)) (x_move rfl) ?_
                refine st_q (v := .int .i64 (((ixS ns ((el es i).2.1)) : Nat) : Int)) (x_assign rfl) ?_
                refine st_nil ?_
                refine kn553 _ _ ?_
                refine blockK fun Q556 kn557 kr558 kx559 kb560 => ?_
                refine loopK (α := Nat × (List Nat) × Value) (fun x => [(0, .slice b es.length cb), (4, .pointer (some ⟨g, 0, none⟩)), (5, .slice ap ns.length cp), (7, .slice ((some ⟨w21.heap.size, 0, none⟩)) ns.length ns.length), (11, x.2.2), (12, .int .i64 ((el F ((ixS ns ((el es i).2.1)))))), (15, .int .i64 (((ixS ns ((el es i).1)) : Nat) : Int)), (17, .slice a310 ns.length c311), (18, .int .i64 ((x.1 : Nat) : Int)), (61, .slice b es.length cb), (62, .int .i64 ((es.length : Nat) : Int)), (63, .int .i64 ((i : Nat) : Int))]) (fun x w561 => Below w57.heap.size w57 w561 ∧ (w301.heap.size < w561.heap.size ∧ ((x.2.1.length : Nat) : Int) + el F x.1 = el F (ixS ns (el es i).2.1) ∧ PI ns es F (ixS ns (el es i).2.1) x.1 x.2.1 ∧ Own w561.heap w301.heap.size 3 1 x.2.2 (x.2.1.length + 1) (flat enN (i :: x.2.1))) ∧ Own w561.heap lo312 3 1 (.slice a310 ns.length c311) ns.length (flat enI F)) (fun x => (el F x.1).toNat) ((ixS ns (el es i).2.1), [], .slice ((some ⟨w301.heap.size, 0, none⟩)) 1 1) ⟨rfl, rfl, rfl, rfl, rfl, rfl, rfl, rfl, rfl, rfl, rfl, rfl, trivial⟩ ?_ ?_
                ·
                  refine ⟨hE549, ?_⟩
                  try dsimp only
                  refine ⟨?_, hF547⟩
                  obtain ⟨d0, hd0, hbd⟩ := hK.backD (by omega) hD hsame
                  have hd1 : el F (ixS ns (el es i).2.1) = (d0 : Int) := hd0
                  exact ⟨by omega, by simp, PI.start hi2 (by omega), Blk.own1 (k := 1) (m := 1) hB544 rfl (by omega)⟩
                ·
                  rintro τ562 ⟨at_, pre, v3⟩ w563 ⟨hx565, ⟨⟨hlr, hpl, hPI, hR⟩, hC564⟩⟩
                  try dsimp only at hlr hpl hPI hR hC564
                  have hz566 := hx565.le
                  intro Q567 kn568 kr569 ke570
                  obtain ⟨a571, c572, rfl, hm573, hm574⟩ := hR.src.form
                  have hatn := hPI.1
                  have hat0 := hPI.2.1
                  have hatF := hFr at_ hatn
                  have hatT := hFr _ hi2
                  refine seqK fun Q575 kn576 kr577 ke578 => ?_
                  refine seqK fun Q579 kn580 kr581 ke582 => ?_
                  refine region ?_
                  refine st_q (v := .int .i64 ((at_ : Nat) : Int)) (x_move rfl) ?_
                  refine st_q (v := .int .i64 (((ixS ns ((el es i).1)) : Nat) : Int)) (x_move rfl) ?_
                  refine st_q (v := .bool (decide (at_ ≠ ((ixS ns ((el es i).1)))))) (x_neqN rfl rfl) ?_
                  refine st_nil ?_
                  refine kn580 _ _ ?_
                  refine cnd (p := at_ ≠ ((ixS ns ((el es i).1)))) rfl (fun h583 => ?_) (fun h583 => ?_)
                  ·
                    refine skip ?_
                    refine kn576 _ _ ?_
                    refine blockK fun Q584 kn585 kr586 kx587 kb588 => ?_
                    refine seqK fun Q589 kn590 kr591 ke592 => ?_
                    refine region ?_
                    refine st_q (v := .pointer (some ⟨g, 0, none⟩)) (x_move rfl) ?_
                    refine st_q (v := .pointer (some ⟨g, 0, none⟩)) (x_nilCheck rfl) ?_
                    refine st_q (v := .pointer (some ⟨g, 2, none⟩)) (x_field (o := 0) T.fa65_2 rfl) ?_
                    have hrl := row_le ns es at_
                    have hpos : 0 < el F at_ := by
                      rcases Int.lt_or_le 0 (el F at_) with h | h
                      · exact h
                      · exact absurd (hD.zero hatn (by omega)) (by assumption)
                    refine st_q (v := .slice ((some ⟨D.bo, 0, none⟩)) ns.length ns.length) (x_load1 T.na63 rfl ((hN3.blk.keep (hx565.block _ hN3.blk.lt)).one 2 rfl)) ?_
                    refine st_q (v := .int .i64 ((at_ : Nat) : Int)) (x_move rfl) ?_
                    refine st_q (v := .pointer (some ⟨D.bo, 0 + at_ * 1, none⟩)) (x_index T.sl63 rfl rfl (by omega)) ?_
                    obtain ⟨q593, c594, e595, hs596⟩ := hN3.rows at_ (by omega)
                    have hcp597 := hs596.capl
                    refine st_q (v := .slice q593 ((rowS ns es at_).length) c594) (x_load1 T.na38 rfl (Cells.conv (((hN3.out).below hx565).elem enV_len (i := at_) (by have := hN3.vlen; omega)) e595)) ?_
                    refine st_q (v := .int .i64 (((rowS ns es at_).length : Nat) : Int)) (x_lenSl rfl Try.underlying38 rfl) ?_
                    refine st_q (v := .int .i64 ((0 : Nat) : Int)) (x_move rfl) ?_
                    refine st_nil ?_
                    refine kn590 _ _ ?_
                    refine blockK fun Q598 kn599 kr600 kx601 kb602 => ?_
                    refine loopK (α := Nat) (fun x => [(0, .slice b es.length cb), (4, .pointer (some ⟨g, 0, none⟩)), (5, .slice ap ns.length cp), (7, .slice ((some ⟨w21.heap.size, 0, none⟩)) ns.length ns.length), (11, .slice a571 ((pre.length + 1)) c572), (12, .int .i64 ((el F ((ixS ns ((el es i).2.1)))))), (15, .int .i64 (((ixS ns ((el es i).1)) : Nat) : Int)), (17, .slice a310 ns.length c311), (18, .int .i64 ((at_ : Nat) : Int)), (61, .slice b es.length cb), (62, .int .i64 ((es.length : Nat) : Int)), (63, .int .i64 ((i : Nat) : Int)), (127, .slice q593 ((rowS ns es at_).length) c594), (128, .int .i64 (((rowS ns es at_).length : Nat) : Int)), (129, .int .i64 ((x : Nat) : Int))]) (fun x w603 => Ext w563 w603 ∧ x ≤ (rowS ns es at_).length ∧ ∀ z, z < x → el F (tgt ns es (el (rowS ns es at_) z)) ≠ el F at_ - 1) (fun x => (rowS ns es at_).length - x) (0) ⟨rfl, rfl, rfl, rfl, rfl, rfl, rfl, rfl, rfl, rfl, rfl, rfl, rfl, rfl, rfl, trivial⟩ ?_ ?_
                    ·
                      refine ⟨Below.refl _ _, ?_⟩
                      try dsimp only
                      exact ⟨Nat.zero_le _, fun x hx => by omega⟩
                    ·
                      rintro τ604 j w605 ⟨hx606, ⟨hj, hJ⟩⟩
                      try dsimp only at hj hJ
                      have hF607 := hC564.ext hx606
                      have hF608 := hR.ext hx606
                      have hE609 : Below w57.heap.size w57 w605 := hx606.e hx565 (Nat.le_refl _)
                      have hz610 := hE609.le
                      have hs611 := hx606.size
                      intro Q612 kn613 kr614 ke615
                      refine seqK fun Q616 kn617 kr618 ke619 => ?_
                      refine region ?_
                      refine st_q (v := .bool (decide (j < ((rowS ns es at_).length)))) (x_lssN rfl rfl) ?_
                      refine st_nil ?_
                      refine kn617 _ _ ?_
                      refine seqK fun Q620 kn621 kr622 ke623 => ?_
                      refine cnd (p := j < ((rowS ns es at_).length)) rfl (fun h624 => ?_) (fun h624 => ?_)
                      ·
                        refine skip ?_
                        refine kn621 _ _ ?_
                        refine seqK fun Q625 kn626 kr627 ke628 => ?_
                        refine blockK fun Q629 kn630 kr631 kx632 kb633 => ?_
                        refine seqK fun Q634 kn635 kr636 ke637 => ?_
                        refine region ?_
                        obtain ⟨b638, o639, ha640, hc641⟩ := hs596.at (by omega)
                        refine st_q (v := .pointer (some ⟨b638, o639 + j * 1, none⟩)) (x_index' T.sl38 rfl ha640 rfl (by omega)) ?_
                        have hek := row_lt (ns := ns) (es := es) (a := at_) (k := j) (by omega)
                        have hek1 := hek.1
                        have htl : ixS ns (el es (el (rowS ns es at_) j)).2.1 < ns.length := ixS_lt (hends _ hek1).2
                        refine st_q (v := .int .i64 (((el (rowS ns es at_) j) : Nat) : Int)) (x_load1 T.na3 rfl ((hc641.below hE609).elem enN_len (i := j) (by omega))) ?_
                        refine st_q (v := .int .i64 (((el (rowS ns es at_) j) : Nat) : Int)) (x_assign rfl) ?_
                        refine st_nil ?_
                        refine kn635 _ _ ?_
                        refine seqK fun Q642 kn643 kr644 ke645 => ?_
                        refine regionD1 [3, 8, 9] [0, 1, 2, 3, 4, 5, 6, 7, 8, 9, 10] (.one 0 (.one 1 (.one 2 (.one 3 (.one 4 (.one 5 (.one 6 (.one 7 (.one 8 (.one 9 (.one 10 .done))))))))))) (by kernel_rfl) (by kernel_rfl) ?_
                        intro w646 hx647 hs648
                        have hF649 := hF607.ext hx647
                        have hF650 := hF608.ext hx647
                        have hF651 := hx647.e hx606 (Nat.le_refl _)
                        have hE652 : Below w57.heap.size w57 w646 := hx647.e hE609 (Nat.le_refl _)
                        have hz653 := hE652.le
                        have hs654 := hx647.size
                        have hS655 : Ext w646 w646 := Below.refl _ _
                        refine d_q (v := .pointer (some ⟨g, 0, none⟩)) rfl rfl (fun _ => x_move rfl) ?_
                        refine d_q (v := .pointer (some ⟨g, 0, none⟩)) rfl rfl (fun _ => x_nilCheck rfl) ?_
                        refine d_q (v := .pointer (some ⟨g, 1, none⟩)) rfl rfl (fun _ => x_field (o := 0) T.fa65_1 rfl) ?_
                        refine d_l (v := .map (some D.bm)) rfl rfl rfl (fun v657 hw656 => x_load1 T.na62 rfl (((hN3.blk.keep (hE652.block _ hN3.blk.lt)).one 1 rfl).ext hw656)) ?_
                        refine d_q (v := .slice b es.length cb) rfl rfl (fun _ => x_move rfl) ?_
                        refine d_q (v := .int .i64 (((el (rowS ns es at_) j) : Nat) : Int)) rfl rfl (fun _ => x_move rfl) ?_
                        refine d_q (v := .pointer (some ⟨b223, o224 + ((el (rowS ns es at_) j)) * 3, none⟩)) rfl rfl (fun _ => x_index' T.sl23 rfl ha225 rfl (by omega)) ?_
                        refine d_q (v := .pointer (some ⟨b223, o224 + ((el (rowS ns es at_) j)) * 3 + 1, none⟩)) rfl rfl (fun _ => x_field (o := o224 + ((el (rowS ns es at_) j)) * 3) T.fa47_1 rfl) ?_
                        refine d_l (v := .string ((el es ((el (rowS ns es at_) j))).2.1)) rfl rfl rfl (fun v659 hw658 => x_load1 T.na9 rfl ((((hc226.below hE652).elem enE_len (i := (el (rowS ns es at_) j)) (by omega)).fld 1 rfl).ext hw658)) ?_
                        refine d_l (v := .int .i64 (((ixS ns ((el es ((el (rowS ns es at_) j))).2.1)) : Nat) : Int)) rfl rfl rfl (fun v661 hw660 => x_lookupM rfl rfl Try.underlying9 Try.underlying3 Try.underlying62 zeroI (OMap.ext (OMap.belowW hN3.map hE652) hw660) (hN3.fitn _ (hends _ hek1).2) (hends _ hek1).2) ?_
                        refine d_q (v := .int .i64 (((ixS ns ((el es ((el (rowS ns es at_) j))).2.1)) : Nat) : Int)) rfl rfl (fun _ => x_assign rfl) ?_
                        refine d_done ?_
                        refine kn643 _ _ ?_
                        refine seqK fun Q662 kn663 kr664 ke665 => ?_
                        refine regionD1 [3, 7] [0, 1, 2, 3, 4, 5, 6, 7, 8, 9] (.one 0 (.one 1 (.one 2 (.one 3 (.one 4 (.one 5 (.one 6 (.one 7 (.one 8 (.one 9 .done)))))))))) (by kernel_rfl) (by kernel_rfl) ?_
                        intro w666 hx667 hs668
                        have hF669 := hF649.ext hx667
                        have hF670 := hF650.ext hx667
                        have hF671 := hx667.e hF651 (Nat.le_refl _)
                        have hE672 : Below w57.heap.size w57 w666 := hx667.e hE652 (Nat.le_refl _)
                        have hz673 := hE672.le
                        have hs674 := hx667.size
                        have hS675 : Ext w666 w666 := Below.refl _ _
                        refine d_q (v := .slice a310 ns.length c311) rfl rfl (fun _ => x_move rfl) ?_
                        refine d_q (v := .int .i64 (((ixS ns ((el es ((el (rowS ns es at_) j))).2.1)) : Nat) : Int)) rfl rfl (fun _ => x_move rfl) ?_
                        obtain ⟨b676, o677, ha678, hc679⟩ := hF669.src.at (by omega)
                        refine d_q (v := .pointer (some ⟨b676, o677 + ((ixS ns ((el es ((el (rowS ns es at_) j))).2.1))) * 1, none⟩)) rfl rfl (fun _ => x_index' T.sl38 rfl ha678 rfl (by omega)) ?_
                        refine d_l (v := .int .i64 ((el F ((ixS ns ((el es ((el (rowS ns es at_) j))).2.1)))))) rfl rfl rfl (fun v681 hw680 => x_load1 T.na3 rfl ((hc679.elem enI_len (i := (ixS ns ((el es ((el (rowS ns es at_) j))).2.1))) (by omega)).ext hw680)) ?_
                        refine d_q (v := .slice a310 ns.length c311) rfl rfl (fun _ => x_move rfl) ?_
                        refine d_q (v := .int .i64 ((at_ : Nat) : Int)) rfl rfl (fun _ => x_move rfl) ?_
                        obtain ⟨b682, o683, ha684, hc685⟩ := hF669.src.at (by omega)
                        refine d_q (v := .pointer (some ⟨b682, o683 + at_ * 1, none⟩)) rfl rfl (fun _ => x_index' T.sl38 rfl ha684 rfl (by omega)) ?_
                        refine d_l (v := .int .i64 ((el F at_))) rfl rfl rfl (fun v687 hw686 => x_load1 T.na3 rfl ((hc685.elem enI_len (i := at_) (by omega)).ext hw686)) ?_
                        refine d_q (v := .int .i64 (((el F at_) - 1))) rfl rfl (fun _ => x_sub rfl rfl ⟨by omega, by omega⟩) ?_
                        refine d_q (v := .bool (decide (((el F ((ixS ns ((el es ((el (rowS ns es at_) j))).2.1))))) = (((el F at_) - 1))))) rfl rfl (fun _ => x_eql rfl rfl) ?_
                        refine d_done ?_
                        refine kn663 _ _ ?_
                        refine cnd (p := ((el F ((ixS ns ((el es ((el (rowS ns es at_) j))).2.1))))) = (((el F at_) - 1))) rfl (fun h688 => ?_) (fun h688 => ?_)
                        ·
                          refine seqK fun Q689 kn690 kr691 ke692 => ?_
                          refine region ?_
                          refine st_q (v := .slice a571 ((pre.length + 1)) c572) (x_move rfl) ?_
                          refine st_q (v := .int .i64 (((el (rowS ns es at_) j) : Nat) : Int)) (x_move rfl) ?_
                          refine st_e (e_buildSlice (cs := [.int .i64 (((el (rowS ns es at_) j) : Nat) : Int)]) (e := 3) (fun _ => by kernel_rfl) ?_)
                          intro w693 hA694
                          have hx695 := hA694.ext
                          have hs696 := hA694.size
                          have hB697 : Blk w693.heap w666.heap.size [.int .i64 (((el (rowS ns es at_) j) : Nat) : Int)] 3 := hA694.new
                          have hF698 := hF669.ext hx695
                          have hF699 := hF670.ext hx695
                          have hF700 := hx695.e hF671 (Nat.le_refl _)
                          have hF701 := hc679.ext hx695
                          have hF702 := hc685.ext hx695
                          have hE703 : Below w57.heap.size w57 w693 := hx695.e hE672 (Nat.le_refl _)
                          have hz704 := hE703.le
                          have hs705 := hx695.size
                          refine st_e (e_appendX T.sl38 rfl rfl hF699 (hB697.src1 (k := 1) (m := 1) rfl (by omega)) (ones (by rfl)) (by omega) (by decide) (by omega) ?_)
                          intro v706 w707 hO708 hG709 hN710 hW711
                          have hF712 := hF698.grown hG709 (fun b hb e => by have := (hF699.lt e); have := (hF698.lt hb); first | (clear e hb; omega) | (have := hvS _ hb; clear e hb; omega))
                          have hE716 : Below w57.heap.size w57 w707 := grown_below hG709 hE703 (Nat.le_refl _) (fun b hb => (by have := (hF699.lt hb).1; clear hb; omega))
                          have hz717 := hE716.le
                          have hs718 := hG709.size
                          have hO719 := Own.snoc (enc := enN) (u := (el (rowS ns es at_) j)) hO708
                          obtain ⟨a720, c721, rfl, hm722, hm723⟩ := hO719.src.form
                          refine st_q (v := .slice a720 (((pre.length + 1) + 1)) c721) (x_assign rfl) ?_
                          refine st_nil ?_
                          refine kn690 _ _ ?_
                          refine seqK fun Q724 kn725 kr726 ke727 => ?_
                          refine region ?_
                          refine st_q (v := .int .i64 (((ixS ns ((el es ((el (rowS ns es at_) j))).2.1)) : Nat) : Int)) (x_move rfl) ?_
                          refine st_q (v := .int .i64 (((ixS ns ((el es ((el (rowS ns es at_) j))).2.1)) : Nat) : Int)) (x_assign rfl) ?_
                          refine st_nil ?_
                          refine kn725 _ _ ?_
                          refine exit ?_
                          refine kx632 _ _ _ rfl ?_
                          refine ke628 _ _ _ ?_
                          refine ke615 _ _ _ ?_
                          refine kb602 _ _ ?_
                          refine kn585 _ _ ?_
                          refine kn568 _ ((ixS ns (el es (el (rowS ns es at_) j)).2.1), (pre ++ [el (rowS ns es at_) j]), .slice a720 (((pre.length + 1) + 1)) c721) _ ⟨rfl, rfl, rfl, rfl, rfl, rfl, rfl, rfl, rfl, rfl, rfl, rfl, trivial⟩ ⟨hE716, ?_⟩ ?_
                          ·
                            try dsimp only
                            refine ⟨?_, hF712⟩
                            have hq := hPI.step hends hpos (by omega) (by assumption) hJ
                            exact ⟨by omega, by rw [List.length_append]; simp only [List.length_singleton]; have hq2 : el F (ixS ns (el es (el (rowS ns es at_) j)).2.1) = el F at_ - 1 := (by assumption); omega, hq, by rw [List.length_append]; exact hO719⟩
                          ·
                            have hq : el F (ixS ns (el es (el (rowS ns es at_) j)).2.1) = el F at_ - 1 := by assumption
                            (try dsimp only)
                            omega
                        ·
                          refine skip ?_
                          refine kn630 _ _ ?_
                          refine kn626 _ _ ?_
                          refine region ?_
                          refine st_q (v := .int .i64 (((j + 1) : Nat) : Int)) (x_addN rfl rfl (by omega)) ?_
                          refine st_q (v := .int .i64 (((j + 1) : Nat) : Int)) (x_move rfl) ?_
                          refine st_nil ?_
                          refine kn613 _ ((j + 1)) _ ⟨rfl, rfl, rfl, rfl, rfl, rfl, rfl, rfl, rfl, rfl, rfl, rfl, rfl, rfl, rfl, trivial⟩ ⟨hF671, ?_⟩ ?_
                          ·
                            try dsimp only
                            refine ⟨by omega, fun z hz => ?_⟩
                            by_cases e : z = j
                            · subst e; assumption
                            · exact hJ z (by omega)
                          ·
                            (try dsimp only); omega
                      ·
                        exact absurd h624 (not_not_intro (hD.found hends hatn hpos hJ))
                  ·
                    refine exit ?_
                    refine ke578 _ _ _ ?_
                    refine ke570 _ _ _ ?_
                    refine kb560 _ _ ?_
                    refine kn215 _ _ ?_
                    refine kn211 _ _ ?_
                    refine region ?_
                    refine st_q (v := .int .i64 (((i + 1) : Nat) : Int)) (x_addN rfl rfl (by omega)) ?_
                    refine st_q (v := .int .i64 (((i + 1) : Nat) : Int)) (x_move rfl) ?_
                    refine st_nil ?_
                    refine kn198 _ ((i + 1), (i :: pre), .slice a571 ((pre.length + 1)) c572, (el F ((ixS ns ((el es i).2.1))))) _ ⟨rfl, rfl, rfl, rfl, rfl, rfl, rfl, rfl, rfl, trivial⟩ ⟨hx565, ?_⟩ ?_
                    ·
                      try dsimp only
                      obtain rfl : at_ = (ixS ns (el es i).1) := by omega
                      obtain ⟨d0, hd0, hbd⟩ := hK.backD (by omega) hD hsame
                      have hd1 : el F (ixS ns (el es i).2.1) = (d0 : Int) := hd0
                      rw [hd1]
                      exact ⟨by omega, hC.better hneg hbd (by first | exact .inl (by assumption) | exact .inr (fun h => absurd (show least ≤ el F (ixS ns (el es i).2.1) by rw [hd1]; exact h) (by assumption))) ⟨F, hD, hPI.done hD hi1⟩, hR.weak (by omega)⟩
                    ·
                      (try dsimp only); omega
        ·
          refine exit ?_
          refine ke208 _ _ _ ?_
          refine ke200 _ _ _ ?_
          refine kb191 _ _ ?_
          refine kn180 _ _ ?_
          refine seqK fun Q728 kn729 kr730 ke731 => ?_
          refine region ?_
          refine st_q (v := v) (x_move rfl) ?_
          refine st_q (v := .int .i64 least) (x_move rfl) ?_
          refine st_q (v := .bool (decide (0 ≤ least))) (x_geq rfl rfl) ?_
          refine st_q (v := v) (x_assign rfl) ?_
          refine st_q (v := .bool (decide (0 ≤ least))) (x_assign rfl) ?_
          refine st_nil ?_
          refine kn729 _ _ ?_
          refine ret ?_
          refine kr7 _ _ ?_
          refine leave2 (P := Try.prog) (fn := Try.f18) (t := 2) (u := 3) (v := v) (v' := .bool (decide (0 ≤ least))) rfl rfl rfl ?_
          obtain rfl : i = es.length := by omega
          subst hns
          exact ⟨_, row, _, rfl, (Below.e hx195 hx168 (Nat.le_refl _)), hC.done, hO.weak (by omega)⟩

end Go.Proofs.Ytknfjgbipfpnjaa
