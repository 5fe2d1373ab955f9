import Derived.Test.YtknfjgbipfpnjaaG15
namespace Go.Proofs.Ytknfjgbipfpnjaa
open Go.RowKit Go.Eng Go.OrdPure
open Go.Knot Go.HeapPure
theorem T.zv26 : ZV Try.prog 26 (.slice none 0 0) := fun _ => by kernel_rfl
theorem T.sz26 : SZ Try.prog 26 1 := fun _ => by kernel_rfl
theorem T.cf37 : CF Try.prog 37 := fun _ _ => by kernel_rfl
theorem T.cf40 : CF Try.prog 40 := fun _ _ => by kernel_rfl
theorem T.cf41 : CF Try.prog 41 := fun _ _ => by kernel_rfl
theorem T.cf42 : CF Try.prog 42 := fun _ _ => by kernel_rfl

set_option maxHeartbeats 4000000 in
theorem parts11 (xs : List ByteArray) (es : List Edge) (va vb : Value) (w0 : World) (ha : Src w0.heap va xs.length 1 (flat enS xs)) (hb : Src w0.heap vb es.length 3 (flat enE es)) (hfx : FitS xs) (hfe : FitE es) (hn : xs.length + 2 * es.length ≤ 2097152) : Calls Try.prog 11 #[va, vb] w0 fun e w' => ∃ v us P, e = .returned v ∧ Ext w0 w' ∧ Gre es (nodesL xs es) P ∧ Own w'.heap w0.heap.size 22 1 v P.length (flat enV us) ∧ PartsIn w'.heap w0.heap.size us P := by
  have hE0 : Below w0.heap.size w0 w0 := Below.refl _ _
  have hz0 := hE0.le
  obtain ⟨a, ca, rfl, hca, hca1⟩ := ha.form
  obtain ⟨b, cb, rfl, hcb, hcb1⟩ := hb.form
  refine enter Try.func11 rfl 169 Try.ntmps11 rfl ?_
  refine seqK fun Q1 kn2 kr3 ke4 => ?_
  refine region ?_
  refine st_q (v := .slice none 0 0) (x_assign rfl) ?_
  refine st_nil ?_
  refine kn2 _ _ ?_
  refine seqK fun Q5 kn6 kr7 ke8 => ?_
  refine region ?_
  refine st_q (v := .slice a xs.length ca) (x_move rfl) ?_
  refine st_q (v := .slice b es.length cb) (x_move rfl) ?_
  refine st_c (t_call [.slice a xs.length ca, .slice b es.length cb] T.cf35 rfl rfl) (laid35 xs es _ _ _ ((ha.below hE0)) (hb.below hE0) hfx hfe (by first | omega | (simp; omega))) ?_
  rintro _ w9 ⟨g, D, rfl, hx10, hDlo, hN⟩
  refine ⟨_, rfl, ?_⟩
  have hsz1 := hx10.size
  have hE11 : Below w9.heap.size w9 w9 := Below.refl _ _
  have hz12 := hE11.le
  have hb' := hb.ext hx10
  obtain ⟨ns, hns⟩ : ∃ n, n = nodesL xs es := ⟨_, rfl⟩
  rw [← hns] at hN
  have hfit := hN.fit
  have hvlen := hN.vlen
  have hends := hN.ends
  refine st_q (v := .pointer (some ⟨g, 0, none⟩)) (x_assign rfl) ?_
  refine st_nil ?_
  refine kn6 _ _ ?_
  refine seqK fun Q13 kn14 kr15 ke16 => ?_
  refine region ?_
  refine st_q (v := .pointer (some ⟨g, 0, none⟩)) (x_move rfl) ?_
  refine st_q (v := .slice b es.length cb) (x_move rfl) ?_
  refine st_c (t_call [.pointer (some ⟨g, 0, none⟩), .slice b es.length cb] T.cf36 rfl rfl) (knot36 ns es g D _ _ hN hb') ?_
  rintro _ w17 ⟨vp19, Pn, m, rfl, hx18, hPl, hKt, hPm, hPo⟩
  refine ⟨_, rfl, ?_⟩
  obtain ⟨ap, cp, rfl, hcp1, hcp2⟩ := hPo.src.form
  have hsz2 := hx18.size
  have hK : Kn ns es Pn m := ⟨hN.sx, hN.ends, hKt, hPl⟩
  have hN2 := hN.below hx18
  have hPs := hPo.src
  have hx20 := Below.e hx18 hx10 (Nat.le_refl _)
  have hE21 : Below w17.heap.size w17 w17 := Below.refl _ _
  have hz22 := hE21.le
  have hb'' := hb'.ext hx18
  refine st_q (v := .tuple #[.slice ap ns.length cp, .int .i64 ((m : Nat) : Int)]) (x_move rfl) ?_
  refine st_q (v := .slice ap ns.length cp) (x_extract rfl rfl) ?_
  refine st_q (v := .int .i64 ((m : Nat) : Int)) (x_extract rfl rfl) ?_
  refine st_q (v := .slice ap ns.length cp) (x_assign rfl) ?_
  refine st_q (v := .int .i64 ((m : Nat) : Int)) (x_assign rfl) ?_
  refine st_nil ?_
  refine kn14 _ _ ?_
  refine seqK fun Q23 kn24 kr25 ke26 => ?_
  refine region ?_
  refine st_q (v := .int .i64 ((m : Nat) : Int)) (x_move rfl) ?_
  refine st_e (e_makeSlice T.sl26 rfl rfl (by omega) (by omega) ?_)
  intro w27 hA28
  have hx29 := hA28.ext
  have hs32 := hA28.size
  have hA28x : Al w17 w27 (.cells (flat enV (List.replicate m (.slice none 0 0))).toArray 22) := by rw [flat_repV]; exact hA28
  have hO30 := OB.new (lo := w17.heap.size) (k := 1) (c := m) hA28x (by omega) (by rw [flat_length enV_len]; simp) (by omega)
  have hF31 := Fam.nils (α := ByteArray) w27.heap w17.heap.size 9 enS m
  have hE33 : Below w17.heap.size w17 w27 := hx29.e hE21 (Nat.le_refl _)
  have hz34 := hE33.le
  have hs35 := hx29.size
  have hl36 := hO30.lo
  have hl37 := hO30.lt
  refine st_e (e_alloc T.zv26 ?_)
  intro w38 hA39
  have hx40 := hA39.ext
  have hs41 := hA39.size
  have hB42 : Blk w38.heap w27.heap.size [.slice none 0 0] 26 := hA39.new
  have hF43 := hO30.ext hx40
  have hF44 := Fam.ext hF31 hx40
  have hE45 : Below w17.heap.size w17 w38 := hx40.e hE33 (Nat.le_refl _)
  have hz46 := hE45.le
  have hs47 := hx40.size
  have hlpb : w17.heap.size ≤ w27.heap.size := by omega
  refine st_s (e_st (v := .slice ((some ⟨w17.heap.size, 0, none⟩)) m m) T.sz26 rfl rfl hB42 (by simp [Value.cells]) (by rfl) ?_)
  intro w48 hP49
  have hB50 : Blk w48.heap w27.heap.size [.slice ((some ⟨w17.heap.size, 0, none⟩)) m m] 26 := hP49.new
  have hs51 := hP49.size
  have hF52 := hF43.gk (hP49.grownBy) (hB42.rowk) (by decide)
  have hF53 := Fam.gk hF44 (hP49.grownBy) (hB42.rowk) (by decide)
  have hE54 : Below w17.heap.size w17 w48 := hP49.below hE45 (by omega)
  have hz55 := hE54.le
  refine st_nil ?_
  refine kn24 _ _ ?_
  refine seqK fun Q56 kn57 kr58 ke59 => ?_
  refine seqK fun Q60 kn61 kr62 ke63 => ?_
  refine region ?_
  refine st_q (v := .pointer (some ⟨g, 0, none⟩)) (x_move rfl) ?_
  refine st_q (v := .pointer (some ⟨g, 0, none⟩)) (x_nilCheck rfl) ?_
  refine st_q (v := .pointer (some ⟨g, 0, none⟩)) (x_field (o := 0) T.fa65_0 rfl) ?_
  refine st_q (v := .slice D.na ns.length D.nc) (x_load1 T.na22 rfl ((hN2.blk.keep (hE54.block _ hN2.blk.lt)).one 0 rfl)) ?_
  refine st_q (v := .int .i64 ((ns.length : Nat) : Int)) (x_lenSl rfl Try.underlying22 rfl) ?_
  refine st_q (v := .int .i64 ((0 : Nat) : Int)) (x_move rfl) ?_
  refine st_nil ?_
  refine kn61 _ _ ?_
  refine blockK fun Q64 kn65 kr66 kx67 kb68 => ?_
  refine loopK (α := Nat × (List Value)) (fun x => [(1, .slice b es.length cb), (5, .pointer (some ⟨g, 0, none⟩)), (6, .slice ap ns.length cp), (7, .int .i64 ((m : Nat) : Int)), (8, .pointer (some ⟨w27.heap.size, 0, none⟩)), (39, .slice D.na ns.length D.nc), (40, .int .i64 ((ns.length : Nat) : Int)), (41, .int .i64 ((x.1 : Nat) : Int))]) (fun x w69 => Below w17.heap.size w17 w69 ∧ (x.1 ≤ ns.length ∧ x.2.length = m ∧ OB w69.heap w17.heap.size 22 1 w17.heap.size m (flat enV x.2) ∧ Fam w69.heap w17.heap.size 9 enS x.2 (grp (zipS ns Pn x.1) m)) ∧ Blk w69.heap w27.heap.size [.slice ((some ⟨w17.heap.size, 0, none⟩)) m m] 26) (fun x => ns.length - x.1) (0, (List.replicate m (.slice none 0 0))) ⟨rfl, rfl, rfl, rfl, rfl, rfl, rfl, rfl, trivial⟩ ?_ ?_
  ·
    refine ⟨hE54, ?_⟩
    try dsimp only
    refine ⟨?_, hB50⟩
    exact ⟨Nat.zero_le _, by simp, hF52, (grp_nil (α := ByteArray) m).symm ▸ hF53⟩
  ·
    rintro τ70 ⟨i, vs⟩ w71 ⟨hx73, ⟨⟨hi, hvl, hOb, hF⟩, hC72⟩⟩
    try dsimp only at hi hvl hOb hF hC72
    have hz74 := hx73.le
    intro Q75 kn76 kr77 ke78
    have hl79 := hOb.lo
    have hl80 := hOb.lt
    refine seqK fun Q81 kn82 kr83 ke84 => ?_
    refine region ?_
    refine st_q (v := .bool (decide (i < ns.length))) (x_lssN rfl rfl) ?_
    refine st_nil ?_
    refine kn82 _ _ ?_
    refine seqK fun Q85 kn86 kr87 ke88 => ?_
    refine cnd (p := i < ns.length) rfl (fun h89 => ?_) (fun h89 => ?_)
    ·
      refine skip ?_
      refine kn86 _ _ ?_
      refine seqK fun Q90 kn91 kr92 ke93 => ?_
      refine blockK fun Q94 kn95 kr96 kx97 kb98 => ?_
      refine seqK fun Q99 kn100 kr101 ke102 => ?_
      refine region ?_
      refine st_q (v := .int .i64 ((i : Nat) : Int)) (x_move rfl) ?_
      obtain ⟨b103, o104, ha105, hc106⟩ := hN2.nodes.src.at (by omega)
      refine st_q (v := .pointer (some ⟨b103, o104 + i * 1, none⟩)) (x_index' T.sl22 rfl ha105 rfl (by omega)) ?_
      have hpi : el Pn i < m := hK.lt (by omega)
      have hrl : (el (grp (zipS ns Pn i) m) (el Pn i)).length ≤ i := by have h := grp_row_le (l := zipS ns Pn i) hpi; rwa [zipS_len] at h
      refine st_q (v := .string (el ns i)) (x_load1 T.na9 rfl ((hc106.below hx73).elem enS_len (i := i) (by omega))) ?_
      refine st_q (v := .int .i64 ((i : Nat) : Int)) (x_assign rfl) ?_
      refine st_q (v := .string (el ns i)) (x_assign rfl) ?_
      refine st_nil ?_
      refine kn100 _ _ ?_
      refine regionM1 (fun k => (el vs ((el Pn i))).ownBlock = some k) [0, 4, 5, 9, 11] [0, 1, 2, 3, 4, 5, 6, 7, 8, 9, 10, 11, 12, 15] (.one 0 (.one 1 (.one 2 (.one 3 (.one 4 (.one 5 (.one 6 (.one 7 (.one 8 (.one 9 (.one 10 (.one 11 (.one 12 (.one 13 (.one 14 (.one 15 (.one 16 .done))))))))))))))))) (by kernel_rfl) (by kernel_rfl) ?_
      intro w107 hx108 hs109
      have hB110 := hC72.ext hx108
      have hF111 := hOb.ext hx108
      have hF112 := Fam.ext hF hx108
      have hE113 : Below w17.heap.size w17 w107 := hx108.e hx73 (Nat.le_refl _)
      have hz114 := hE113.le
      have hs115 := hx108.size
      have hS116 : Mod (fun k => (el vs ((el Pn i))).ownBlock = some k) w107 w107 := Mod.refl _ _
      refine d_l (v := .slice ((some ⟨w17.heap.size, 0, none⟩)) m m) rfl rfl rfl (fun v118 hw117 => x_load1 T.na26 rfl (Cells.keep (hB110.one 0 rfl) (hw117.block _ (Cells.lt (hB110.one 0 rfl)) (fun e => absurd (((hF112.own ((el Pn i)) (by have := hF112.len; omega)).kind e).symm.trans hB110.kind) (by decide))))) ?_
      refine d_q (v := .slice ap ns.length cp) rfl rfl (fun _ => x_move rfl) ?_
      refine d_q (v := .int .i64 ((i : Nat) : Int)) rfl rfl (fun _ => x_move rfl) ?_
      obtain ⟨b119, o120, ha121, hc122⟩ := hPs.at (by omega)
      refine d_q (v := .pointer (some ⟨b119, o120 + i * 1, none⟩)) rfl rfl (fun _ => x_index' T.sl38 rfl ha121 rfl (by omega)) ?_
      refine d_l (v := .int .i64 (((el Pn i) : Nat) : Int)) rfl rfl rfl (fun v124 hw123 => x_load1 T.na3 rfl (Cells.keep ((hc122.below hE113).elem enN_len (i := i) (by omega)) (hw123.block _ (Cells.lt ((hc122.below hE113).elem enN_len (i := i) (by omega))) (fun e => by have h1 := ((hF112.own ((el Pn i)) (by have := hF112.len; omega)).lt e).1; have h2 := Cells.lt hc122; omega)))) ?_
      refine d_l (v := .slice ((some ⟨w17.heap.size, 0, none⟩)) m m) rfl rfl rfl (fun v126 hw125 => x_load1 T.na26 rfl (Cells.keep (hB110.one 0 rfl) (hw125.block _ (Cells.lt (hB110.one 0 rfl)) (fun e => absurd (((hF112.own ((el Pn i)) (by have := hF112.len; omega)).kind e).symm.trans hB110.kind) (by decide))))) ?_
      refine d_q (v := .slice ap ns.length cp) rfl rfl (fun _ => x_move rfl) ?_
      refine d_q (v := .int .i64 ((i : Nat) : Int)) rfl rfl (fun _ => x_move rfl) ?_
      refine d_q (v := .pointer (some ⟨b119, o120 + i * 1, none⟩)) rfl rfl (fun _ => x_index' T.sl38 rfl ha121 rfl (by omega)) ?_
      refine d_l (v := .int .i64 (((el Pn i) : Nat) : Int)) rfl rfl rfl (fun v128 hw127 => x_load1 T.na3 rfl (Cells.keep ((hc122.below hE113).elem enN_len (i := i) (by omega)) (hw127.block _ (Cells.lt ((hc122.below hE113).elem enN_len (i := i) (by omega))) (fun e => by have h1 := ((hF112.own ((el Pn i)) (by have := hF112.len; omega)).lt e).1; have h2 := Cells.lt hc122; omega)))) ?_
      refine d_q (v := .pointer (some ⟨w17.heap.size, 0 + ((el Pn i)) * 1, none⟩)) rfl rfl (fun _ => x_index T.sl26 rfl rfl (by omega)) ?_
      refine d_l (v := el vs ((el Pn i))) rfl rfl rfl (fun v130 hw129 => x_load1 T.na22 rfl (Cells.keep (hF111.cells.elem enV_len (i := (el Pn i)) (by omega)) (hw129.block _ (Cells.lt (hF111.cells.elem enV_len (i := (el Pn i)) (by omega))) (fun e => absurd (((hF112.own ((el Pn i)) (by have := hF112.len; omega)).kind e).symm.trans hF111.kind) (by decide))))) ?_
      refine d_q (v := .string (el ns i)) rfl rfl (fun _ => x_move rfl) ?_
      refine d_e (by decide) (d_e' rfl rfl (e_buildSlice (cs := [.string (el ns i)]) (e := 9) (fun _ => by kernel_rfl) ?_))
      intro w131 hA132
      have hx133 := hA132.ext
      have hs134 := hA132.size
      have hB135 : Blk w131.heap w107.heap.size [.string (el ns i)] 9 := hA132.new
      have hB136 := hB110.ext hx133
      have hF137 := hF111.ext hx133
      have hF138 := Fam.ext hF112 hx133
      have hE139 : Below w17.heap.size w17 w131 := hx133.e hE113 (Nat.le_refl _)
      have hz140 := hE139.le
      have hs141 := hx133.size
      have hS142 := hS116.ext hx133
      refine ⟨fun _ => hS142, ?_⟩
      have ho149 := hF138.own ((el Pn i)) (by have := hF138.len; omega)
      refine d_e (by decide) (d_e' rfl rfl (e_appendX T.sl22 rfl rfl ho149 (hB135.src1 (k := 1) (m := 1) rfl (by omega)) (ones (by rfl)) (by omega) (by decide) (by omega) ?_))
      intro v143 w144 hO145 hG146 hN147 hW148
      obtain ⟨a150, c151, rfl, _, _⟩ := hO145.src.form
      have hB152 := hB136.gk (hG146) (ho149.rowk) (by decide)
      have hF153 := hF137.gk (hG146) (ho149.rowk) (by decide)
      have hE154 : Below w17.heap.size w17 w144 := grown_below hG146 hE139 (Nat.le_refl _) (fun b hb => by have := (ho149.lt hb).1; omega)
      have hz155 := hE154.le
      have hs156 := hG146.size
      have hF157 := Fam.push hF138 (a := (el Pn i)) (by have := hF138.len; omega) (xs' := el (grp (zipS ns Pn i) m) ((el Pn i)) ++ [el ns i]) (by simp) (Own.snoc (enc := enS) (u := el ns i) hO145) hG146 hW148
      have hS158 := hS142.grown hG146 (fun b e => .inl e)
      refine ⟨fun _ => hS158, ?_⟩
      refine d_q (v := .pointer (some ⟨w17.heap.size, 0 + ((el Pn i)) * 1, none⟩)) rfl rfl (fun _ => x_index T.sl26 rfl rfl (by omega)) ?_
      refine d_e (by decide) (d_s' rfl rfl (e_stO (v := .slice a150 (((el (grp (zipS ns Pn i) m) ((el Pn i))).length + 1)) c151) (u := .slice a150 (((el (grp (zipS ns Pn i) m) ((el Pn i))).length + 1)) c151) enV_len T.sz22 rfl rfl rfl hF153 (by first | omega | (rw [List.length_set]; omega)) (by rfl) ?_))
      intro w159 _ hP160 hB161
      have hs162 := hP160.size
      have hB163 := hB152.gk (hP160.grownBy) (hF153.rowk) (by decide)
      have hF164 := Fam.gk hF157 (hP160.grownBy) (hF153.rowk) (by decide)
      have hE165 : Below w17.heap.size w17 w159 := hP160.below hE154 (by omega)
      have hz166 := hE165.le
      refine ⟨need_no (by kernel_rfl), ?_⟩
      refine d_done ?_
      refine kn95 _ _ ?_
      refine kn91 _ _ ?_
      refine region ?_
      refine st_q (v := .int .i64 (((i + 1) : Nat) : Int)) (x_addN rfl rfl (by omega)) ?_
      refine st_q (v := .int .i64 (((i + 1) : Nat) : Int)) (x_move rfl) ?_
      refine st_nil ?_
      refine kn76 _ ((i + 1), (vs.set ((el Pn i)) (.slice a150 (((el (grp (zipS ns Pn i) m) ((el Pn i))).length + 1)) c151))) _ ⟨rfl, rfl, rfl, rfl, rfl, rfl, rfl, rfl, trivial⟩ ⟨hE165, ?_⟩ ?_
      ·
        try dsimp only
        refine ⟨?_, hB163⟩
        refine ⟨by omega, by rw [List.length_set]; exact hvl, hB161, ?_⟩
        rw [zipS_succ, grp_snoc (a := el Pn i) hpi]
        exact hF164
      ·
        (try dsimp only); omega
    ·
      refine exit ?_
      refine ke88 _ _ _ ?_
      refine ke78 _ _ _ ?_
      refine kb68 _ _ ?_
      refine kn57 _ _ ?_
      refine seqK fun Q167 kn168 kr169 ke170 => ?_
      refine region ?_
      have e0 : i = ns.length := by omega
      have hF1710 : Fam w71.heap w17.heap.size 9 enS vs (grp (zipS ns Pn ns.length) m) := e0 ▸ hF
      have hF171 : Fam w71.heap w17.heap.size 9 enS vs (mem_ ns Pn m) := hF1710
      refine st_q (v := .int .i64 ((m : Nat) : Int)) (x_move rfl) ?_
      refine st_e (e_makeSlice T.sl38 rfl rfl (by omega) (by omega) ?_)
      intro w172 hA173
      have hx174 := hA173.ext
      have hs176 := hA173.size
      have hA173x : Al w71 w172 (.cells (flat enN (List.replicate m (0 : Nat))).toArray 3) := by rw [flat_repN]; exact hA173
      have hO175 := OB.new (lo := w17.heap.size) (k := 1) (c := m) hA173x (by omega) (by rw [flat_length enN_len]; simp) (by omega)
      have hB177 := hC72.ext hx174
      have hF178 := hOb.ext hx174
      have hF179 := Fam.ext hF171 hx174
      have hE180 : Below w17.heap.size w17 w172 := hx174.e hx73 (Nat.le_refl _)
      have hz181 := hE180.le
      have hs182 := hx174.size
      have hl183 := hO175.lo
      have hl184 := hO175.lt
      refine st_q (v := .slice ((some ⟨w71.heap.size, 0, none⟩)) m m) (x_assign rfl) ?_
      refine st_nil ?_
      refine kn168 _ _ ?_
      refine seqK fun Q185 kn186 kr187 ke188 => ?_
      refine region ?_
      refine st_q (v := .int .i64 ((m : Nat) : Int)) (x_move rfl) ?_
      refine st_e (e_makeSlice T.sl63 rfl rfl (by omega) (by omega) ?_)
      intro w189 hA190
      have hx191 := hA190.ext
      have hs194 := hA190.size
      have hA190x : Al w172 w189 (.cells (flat enV (List.replicate m (.slice none 0 0))).toArray 38) := by rw [flat_repV]; exact hA190
      have hO192 := OB.new (lo := w17.heap.size) (k := 1) (c := m) hA190x (by omega) (by rw [flat_length enV_len]; simp) (by omega)
      have hF193 := Fam.nils (α := Nat) w189.heap w172.heap.size 3 enN m
      have hB195 := hB177.ext hx191
      have hF196 := hF178.ext hx191
      have hF197 := Fam.ext hF179 hx191
      have hF198 := hO175.ext hx191
      have hE199 : Below w17.heap.size w17 w189 := hx191.e hE180 (Nat.le_refl _)
      have hz200 := hE199.le
      have hs201 := hx191.size
      have hl202 := hO192.lo
      have hl203 := hO192.lt
      refine st_q (v := .slice ((some ⟨w172.heap.size, 0, none⟩)) m m) (x_assign rfl) ?_
      refine st_nil ?_
      refine kn186 _ _ ?_
      refine seqK fun Q204 kn205 kr206 ke207 => ?_
      refine seqK fun Q208 kn209 kr210 ke211 => ?_
      refine region ?_
      refine st_q (v := .slice b es.length cb) (x_move rfl) ?_
      refine st_q (v := .int .i64 ((es.length : Nat) : Int)) (x_lenSl rfl Try.underlying23 rfl) ?_
      refine st_q (v := .int .i64 ((0 : Nat) : Int)) (x_move rfl) ?_
      refine st_nil ?_
      refine kn209 _ _ ?_
      refine blockK fun Q212 kn213 kr214 kx215 kb216 => ?_
      refine loopK (α := Nat × (List Nat) × (List Value)) (fun x => [(5, .pointer (some ⟨g, 0, none⟩)), (6, .slice ap ns.length cp), (8, .pointer (some ⟨w27.heap.size, 0, none⟩)), (11, .slice ((some ⟨w71.heap.size, 0, none⟩)) m m), (12, .slice ((some ⟨w172.heap.size, 0, none⟩)) m m), (67, .slice b es.length cb), (68, .int .i64 ((es.length : Nat) : Int)), (69, .int .i64 ((x.1 : Nat) : Int))]) (fun x w217 => Below w17.heap.size w17 w217 ∧ (x.1 ≤ es.length ∧ x.2.1.length = m ∧ x.2.2.length = m ∧ (∀ a, a < m → el x.2.1 a = wt (Xs ns es Pn x.1) [] a) ∧ OB w217.heap w17.heap.size 3 1 w71.heap.size m (flat enN x.2.1) ∧ OB w217.heap w17.heap.size 38 1 w172.heap.size m (flat enV x.2.2) ∧ Fam w217.heap w172.heap.size 3 enN x.2.2 (grp (Xs ns es Pn x.1) m)) ∧ Blk w217.heap w27.heap.size [.slice ((some ⟨w17.heap.size, 0, none⟩)) m m] 26 ∧ OB w217.heap w17.heap.size 22 1 w17.heap.size m (flat enV vs) ∧ Fam w217.heap w17.heap.size 9 enS vs (mem_ ns Pn m)) (fun x => es.length - x.1) (0, (List.replicate m 0), (List.replicate m (.slice none 0 0))) ⟨rfl, rfl, rfl, rfl, rfl, rfl, rfl, rfl, trivial⟩ ?_ ?_
      ·
        refine ⟨hE199, ?_⟩
        try dsimp only
        refine ⟨?_, hB195, hF196, hF197⟩
        exact ⟨Nat.zero_le _, by simp, by simp, fun a ha => by rw [el_replicate ha]; rfl, hF198, hO192, (grp_nil (α := Nat) m).symm ▸ hF193⟩
      ·
        rintro τ218 ⟨i, W, vs2⟩ w219 ⟨hx223, ⟨⟨hi, hWl, hvl2, hWv, hOw, hOk, hF2⟩, hC220, hC221, hC222⟩⟩
        try dsimp only at hi hWl hvl2 hWv hOw hOk hF2 hC220 hC221 hC222
        have hz224 := hx223.le
        intro Q225 kn226 kr227 ke228
        have hl229 := hOw.lo
        have hl230 := hOw.lt
        have hl231 := hOk.lo
        have hl232 := hOk.lt
        refine seqK fun Q233 kn234 kr235 ke236 => ?_
        refine region ?_
        refine st_q (v := .bool (decide (i < es.length))) (x_lssN rfl rfl) ?_
        refine st_nil ?_
        refine kn234 _ _ ?_
        refine seqK fun Q237 kn238 kr239 ke240 => ?_
        refine cnd (p := i < es.length) rfl (fun h241 => ?_) (fun h241 => ?_)
        ·
          refine skip ?_
          refine kn238 _ _ ?_
          refine seqK fun Q242 kn243 kr244 ke245 => ?_
          refine blockK fun Q246 kn247 kr248 kx249 kb250 => ?_
          refine seqK fun Q251 kn252 kr253 ke254 => ?_
          refine region ?_
          obtain ⟨b255, o256, ha257, hc258⟩ := hb''.at (by omega)
          refine st_q (v := .pointer (some ⟨b255, o256 + i * 3, none⟩)) (x_index' T.sl23 rfl ha257 rfl (by omega)) ?_
          have hi1 := ixS_lt (hends i (by omega)).1
          have hi2 := ixS_lt (hends i (by omega)).2
          have hp1 : (el Pn (ixS ns (el es i).1)) < m := hK.pF_lt (by omega)
          have hp2 : (el Pn (ixS ns (el es i).2.1)) < m := hK.pT_lt (by omega)
          have hwb : el W (el Pn (ixS ns (el es i).1)) ≤ i := by rw [hWv _ hp1]; exact Nat.le_trans (wt_le _ _ _) (Xs_len i)
          have hrl : (el (grp (Xs ns es Pn i) m) (el Pn (ixS ns (el es i).2.1))).length ≤ i := Nat.le_trans (grp_row_le hp2) (Xs_len i)
          refine st_q (v := .agg #[.string ((el es i).1), .string ((el es i).2.1), .bool ((el es i).2.2)]) (x_loadA [.string ((el es i).1), .string ((el es i).2.1), .bool ((el es i).2.2)] T.ag47 rfl ((hc258.below hx223).elem enE_len (i := i) (by omega))) ?_
          refine st_e (e_alloc T.zv47 ?_)
          intro w259 hA260
          have hx261 := hA260.ext
          have hs262 := hA260.size
          have hB263 : Blk w259.heap w219.heap.size [.string ByteArray.empty, .string ByteArray.empty, .bool false] 47 := hA260.new
          have hB264 := hC220.ext hx261
          have hF265 := hC221.ext hx261
          have hF266 := Fam.ext hC222 hx261
          have hF267 := hOw.ext hx261
          have hF268 := hOk.ext hx261
          have hF269 := Fam.ext hF2 hx261
          have hE270 : Below w17.heap.size w17 w259 := hx261.e hx223 (Nat.le_refl _)
          have hz271 := hE270.le
          have hs272 := hx261.size
          refine st_s (e_st (v := .agg #[.string ((el es i).1), .string ((el es i).2.1), .bool ((el es i).2.2)]) T.sz47 rfl rfl hB263 (by simp [Value.cells]) (by rfl) ?_)
          intro w273 hP274
          have hB275 : Blk w273.heap w219.heap.size [.string ((el es i).1), .string ((el es i).2.1), .bool ((el es i).2.2)] 47 := hP274.new
          have hs276 := hP274.size
          have hB277 := hB264.gk (hP274.grownBy) (hB263.rowk) (by decide)
          have hF278 := hF265.gk (hP274.grownBy) (hB263.rowk) (by decide)
          have hF279 := Fam.gk hF266 (hP274.grownBy) (hB263.rowk) (by decide)
          have hF280 := hF267.gk (hP274.grownBy) (hB263.rowk) (by decide)
          have hF281 := hF268.gk (hP274.grownBy) (hB263.rowk) (by decide)
          have hF282 := Fam.gk hF269 (hP274.grownBy) (hB263.rowk) (by decide)
          have hE283 : Below w17.heap.size w17 w273 := hP274.below hE270 (by omega)
          have hz284 := hE283.le
          refine st_nil ?_
          refine kn252 _ _ ?_
          refine seqK fun Q285 kn286 kr287 ke288 => ?_
          refine regionD1 [4, 6, 7, 9, 14, 16, 17, 19] [0, 1, 2, 3, 4, 5, 6, 7, 8, 9, 10, 11, 12, 13, 14, 15, 16, 17, 18, 19, 20, 21] (.one 0 (.one 1 (.one 2 (.one 3 (.one 4 (.one 5 (.one 6 (.one 7 (.one 8 (.one 9 (.one 10 (.one 11 (.one 12 (.one 13 (.one 14 (.one 15 (.one 16 (.one 17 (.one 18 (.one 19 (.one 20 (.one 21 .done)))))))))))))))))))))) (by kernel_rfl) (by kernel_rfl) ?_
          intro w289 hx290 hs291
          have hB292 := hB277.ext hx290
          have hB293 := hB275.ext hx290
          have hF294 := hF278.ext hx290
          have hF295 := Fam.ext hF279 hx290
          have hF296 := hF280.ext hx290
          have hF297 := hF281.ext hx290
          have hF298 := Fam.ext hF282 hx290
          have hE299 : Below w17.heap.size w17 w289 := hx290.e hE283 (Nat.le_refl _)
          have hz300 := hE299.le
          have hs301 := hx290.size
          have hS302 : Ext w289 w289 := Below.refl _ _
          refine d_q (v := .slice ap ns.length cp) rfl rfl (fun _ => x_move rfl) ?_
          refine d_q (v := .pointer (some ⟨g, 0, none⟩)) rfl rfl (fun _ => x_move rfl) ?_
          refine d_q (v := .pointer (some ⟨g, 0, none⟩)) rfl rfl (fun _ => x_nilCheck rfl) ?_
          refine d_q (v := .pointer (some ⟨g, 1, none⟩)) rfl rfl (fun _ => x_field (o := 0) T.fa65_1 rfl) ?_
          refine d_l (v := .map (some D.bm)) rfl rfl rfl (fun v304 hw303 => x_load1 T.na62 rfl (((hN2.blk.keep (hE299.block _ hN2.blk.lt)).one 1 rfl).ext hw303)) ?_
          refine d_q (v := .pointer (some ⟨w219.heap.size, 0, none⟩)) rfl rfl (fun _ => x_field (o := 0) T.fa47_0 rfl) ?_
          refine d_l (v := .string ((el es i).1)) rfl rfl rfl (fun v306 hw305 => x_load1 T.na9 rfl ((hB293.one 0 rfl).ext hw305)) ?_
          refine d_l (v := .int .i64 (((ixS ns ((el es i).1)) : Nat) : Int)) rfl rfl rfl (fun v308 hw307 => x_lookupM rfl rfl Try.underlying9 Try.underlying3 Try.underlying62 zeroI (OMap.ext (OMap.belowW hN2.map hE299) hw307) (hN2.fitn _ (hends _ (by omega)).1) (hends _ (by omega)).1) ?_
          obtain ⟨b309, o310, ha311, hc312⟩ := hPs.at (by omega)
          refine d_q (v := .pointer (some ⟨b309, o310 + ((ixS ns ((el es i).1))) * 1, none⟩)) rfl rfl (fun _ => x_index' T.sl38 rfl ha311 rfl (by omega)) ?_
          refine d_l (v := .int .i64 (((el Pn ((ixS ns ((el es i).1)))) : Nat) : Int)) rfl rfl rfl (fun v314 hw313 => x_load1 T.na3 rfl (((hc312.below hE299).elem enN_len (i := (ixS ns ((el es i).1))) (by omega)).ext hw313)) ?_
          refine d_q (v := .slice ap ns.length cp) rfl rfl (fun _ => x_move rfl) ?_
          refine d_q (v := .pointer (some ⟨g, 0, none⟩)) rfl rfl (fun _ => x_move rfl) ?_
          refine d_q (v := .pointer (some ⟨g, 0, none⟩)) rfl rfl (fun _ => x_nilCheck rfl) ?_
          refine d_q (v := .pointer (some ⟨g, 1, none⟩)) rfl rfl (fun _ => x_field (o := 0) T.fa65_1 rfl) ?_
          refine d_l (v := .map (some D.bm)) rfl rfl rfl (fun v316 hw315 => x_load1 T.na62 rfl (((hN2.blk.keep (hE299.block _ hN2.blk.lt)).one 1 rfl).ext hw315)) ?_
          refine d_q (v := .pointer (some ⟨w219.heap.size, 1, none⟩)) rfl rfl (fun _ => x_field (o := 0) T.fa47_1 rfl) ?_
          refine d_l (v := .string ((el es i).2.1)) rfl rfl rfl (fun v318 hw317 => x_load1 T.na9 rfl ((hB293.one 1 rfl).ext hw317)) ?_
          refine d_l (v := .int .i64 (((ixS ns ((el es i).2.1)) : Nat) : Int)) rfl rfl rfl (fun v320 hw319 => x_lookupM rfl rfl Try.underlying9 Try.underlying3 Try.underlying62 zeroI (OMap.ext (OMap.belowW hN2.map hE299) hw319) (hN2.fitn _ (hends _ (by omega)).2) (hends _ (by omega)).2) ?_
          refine d_q (v := .pointer (some ⟨b309, o310 + ((ixS ns ((el es i).2.1))) * 1, none⟩)) rfl rfl (fun _ => x_index' T.sl38 rfl ha311 rfl (by omega)) ?_
          refine d_l (v := .int .i64 (((el Pn ((ixS ns ((el es i).2.1)))) : Nat) : Int)) rfl rfl rfl (fun v322 hw321 => x_load1 T.na3 rfl (((hc312.below hE299).elem enN_len (i := (ixS ns ((el es i).2.1))) (by omega)).ext hw321)) ?_
          refine d_q (v := .int .i64 (((el Pn ((ixS ns ((el es i).1)))) : Nat) : Int)) rfl rfl (fun _ => x_assign rfl) ?_
          refine d_q (v := .int .i64 (((el Pn ((ixS ns ((el es i).2.1)))) : Nat) : Int)) rfl rfl (fun _ => x_assign rfl) ?_
          refine d_done ?_
          refine kn286 _ _ ?_
          refine seqK fun Q323 kn324 kr325 ke326 => ?_
          refine region ?_
          refine st_q (v := .int .i64 (((el Pn ((ixS ns ((el es i).1)))) : Nat) : Int)) (x_move rfl) ?_
          refine st_q (v := .int .i64 (((el Pn ((ixS ns ((el es i).2.1)))) : Nat) : Int)) (x_move rfl) ?_
          refine st_q (v := .bool (decide (((el Pn ((ixS ns ((el es i).1))))) ≠ ((el Pn ((ixS ns ((el es i).2.1)))))))) (x_neqN rfl rfl) ?_
          refine st_nil ?_
          refine kn324 _ _ ?_
          refine cnd (p := ((el Pn ((ixS ns ((el es i).1))))) ≠ ((el Pn ((ixS ns ((el es i).2.1)))))) rfl (fun h327 => ?_) (fun h327 => ?_)
          ·
            refine seqK fun Q328 kn329 kr330 ke331 => ?_
            refine region ?_
            refine st_q (v := .slice ((some ⟨w71.heap.size, 0, none⟩)) m m) (x_move rfl) ?_
            refine st_q (v := .int .i64 (((el Pn ((ixS ns ((el es i).1)))) : Nat) : Int)) (x_move rfl) ?_
            refine st_q (v := .pointer (some ⟨w71.heap.size, 0 + ((el Pn ((ixS ns ((el es i).1))))) * 1, none⟩)) (x_index T.sl38 rfl rfl (by omega)) ?_
            refine st_q (v := .int .i64 (((el W ((el Pn ((ixS ns ((el es i).1)))))) : Nat) : Int)) (x_load1 T.na3 rfl (hF296.cells.elem enN_len (i := (el Pn ((ixS ns ((el es i).1))))) (by omega))) ?_
            refine st_q (v := .int .i64 ((((el W ((el Pn ((ixS ns ((el es i).1)))))) + 1) : Nat) : Int)) (x_addN rfl rfl (by omega)) ?_
            refine st_q (v := .pointer (some ⟨w71.heap.size, 0 + ((el Pn ((ixS ns ((el es i).1))))) * 1, none⟩)) (x_index T.sl38 rfl rfl (by omega)) ?_
            refine st_s (e_stO (v := .int .i64 ((((el W ((el Pn ((ixS ns ((el es i).1)))))) + 1) : Nat) : Int)) (u := ((el W ((el Pn ((ixS ns ((el es i).1)))))) + 1)) enN_len T.sz3 rfl rfl rfl hF296 (by first | omega | (rw [List.length_set]; omega)) (by rfl) ?_)
            intro w332 _ hP333 hB334
            have hs335 := hP333.size
            have hB336 := hB292.gk (hP333.grownBy) (hF296.rowk) (by decide)
            have hB337 := hB293.gk (hP333.grownBy) (hF296.rowk) (by decide)
            have hF338 := hF294.gk (hP333.grownBy) (hF296.rowk) (by decide)
            have hF339 := Fam.gk hF295 (hP333.grownBy) (hF296.rowk) (by decide)
            have hF340 := hF297.gk (hP333.grownBy) (hF296.rowk) (by decide)
            have hF341 := Fam.ptLt hF298 hP333 (by omega)
            have hE342 : Below w17.heap.size w17 w332 := hP333.below hE299 (by omega)
            have hz343 := hE342.le
            refine st_nil ?_
            refine kn329 _ _ ?_
            refine region ?_
            refine st_q (v := .slice ((some ⟨w172.heap.size, 0, none⟩)) m m) (x_move rfl) ?_
            refine st_q (v := .int .i64 (((el Pn ((ixS ns ((el es i).2.1)))) : Nat) : Int)) (x_move rfl) ?_
            refine st_q (v := .slice ((some ⟨w172.heap.size, 0, none⟩)) m m) (x_move rfl) ?_
            refine st_q (v := .int .i64 (((el Pn ((ixS ns ((el es i).2.1)))) : Nat) : Int)) (x_move rfl) ?_
            refine st_q (v := .pointer (some ⟨w172.heap.size, 0 + ((el Pn ((ixS ns ((el es i).2.1))))) * 1, none⟩)) (x_index T.sl63 rfl rfl (by omega)) ?_
            refine st_q (v := el vs2 ((el Pn ((ixS ns ((el es i).2.1)))))) (x_load1 T.na38 rfl (hF340.cells.elem enV_len (i := (el Pn ((ixS ns ((el es i).2.1))))) (by omega))) ?_
            refine st_q (v := .int .i64 (((el Pn ((ixS ns ((el es i).1)))) : Nat) : Int)) (x_move rfl) ?_
            refine st_e (e_buildSlice (cs := [.int .i64 (((el Pn ((ixS ns ((el es i).1)))) : Nat) : Int)]) (e := 3) (fun _ => by kernel_rfl) ?_)
            intro w344 hA345
            have hx346 := hA345.ext
            have hs347 := hA345.size
            have hB348 : Blk w344.heap w332.heap.size [.int .i64 (((el Pn ((ixS ns ((el es i).1)))) : Nat) : Int)] 3 := hA345.new
            have hB349 := hB336.ext hx346
            have hB350 := hB337.ext hx346
            have hF351 := hF338.ext hx346
            have hF352 := Fam.ext hF339 hx346
            have hF353 := hF340.ext hx346
            have hF354 := Fam.ext hF341 hx346
            have hF355 := hB334.ext hx346
            have hE356 : Below w17.heap.size w17 w344 := hx346.e hE342 (Nat.le_refl _)
            have hz357 := hE356.le
            have hs358 := hx346.size
            have ho365 := hF354.own ((el Pn (ixS ns (el es i).2.1))) (by have := hF354.len; omega)
            refine st_e (e_appendX T.sl38 rfl rfl ho365 (hB348.src1 (k := 1) (m := 1) rfl (by omega)) (ones (by rfl)) (by omega) (by decide) (by omega) ?_)
            intro v359 w360 hO361 hG362 hN363 hW364
            obtain ⟨a366, c367, rfl, _, _⟩ := hO361.src.form
            have hB368 := hB349.gk (hG362) (ho365.rowk) (by decide)
            have hB369 := hB350.gk (hG362) (ho365.rowk) (by decide)
            have hF370 := hF351.gk (hG362) (ho365.rowk) (by decide)
            have hF371 := Fam.gk hF352 (hG362) (ho365.rowk) (by decide)
            have hF372 := hF353.gk (hG362) (ho365.rowk) (by decide)
            have hF373 := hF355.grown hG362 (fun e => by have := (ho365.lt e).1; omega)
            have hE374 : Below w17.heap.size w17 w360 := grown_below hG362 hE356 (Nat.le_refl _) (fun b hb => by have := (ho365.lt hb).1; omega)
            have hz375 := hE374.le
            have hs376 := hG362.size
            have hF377 := Fam.push hF354 (a := (el Pn (ixS ns (el es i).2.1))) (by have := hF354.len; omega) (xs' := el (grp (Xs ns es Pn i) m) ((el Pn (ixS ns (el es i).2.1))) ++ [(el Pn ((ixS ns ((el es i).1))))]) (by simp) (Own.snoc (enc := enN) (u := (el Pn ((ixS ns ((el es i).1))))) hO361) hG362 hW364
            refine st_q (v := .pointer (some ⟨w172.heap.size, 0 + ((el Pn ((ixS ns ((el es i).2.1))))) * 1, none⟩)) (x_index T.sl63 rfl rfl (by omega)) ?_
            refine st_s (e_stO (v := .slice a366 (((el (grp (Xs ns es Pn i) m) ((el Pn (ixS ns (el es i).2.1)))).length + 1)) c367) (u := .slice a366 (((el (grp (Xs ns es Pn i) m) ((el Pn (ixS ns (el es i).2.1)))).length + 1)) c367) enV_len T.sz38 rfl rfl rfl hF372 (by first | omega | (rw [List.length_set]; omega)) (by rfl) ?_)
            intro w378 _ hP379 hB380
            have hs381 := hP379.size
            have hB382 := hB368.gk (hP379.grownBy) (hF372.rowk) (by decide)
            have hB383 := hB369.gk (hP379.grownBy) (hF372.rowk) (by decide)
            have hF384 := hF370.gk (hP379.grownBy) (hF372.rowk) (by decide)
            have hF385 := Fam.gk hF371 (hP379.grownBy) (hF372.rowk) (by decide)
            have hF386 := hF373.gk (hP379.grownBy) (hF372.rowk) (by decide)
            have hF387 := Fam.gk hF377 (hP379.grownBy) (hF372.rowk) (by decide)
            have hE388 : Below w17.heap.size w17 w378 := hP379.below hE374 (by omega)
            have hz389 := hE388.le
            refine st_nil ?_
            refine kn247 _ _ ?_
            refine kn243 _ _ ?_
            refine region ?_
            refine st_q (v := .int .i64 (((i + 1) : Nat) : Int)) (x_addN rfl rfl (by omega)) ?_
            refine st_q (v := .int .i64 (((i + 1) : Nat) : Int)) (x_move rfl) ?_
            refine st_nil ?_
            refine kn226 _ ((i + 1), (W.set ((el Pn ((ixS ns ((el es i).1))))) (((el W ((el Pn ((ixS ns ((el es i).1)))))) + 1))), (vs2.set ((el Pn ((ixS ns ((el es i).2.1))))) (.slice a366 (((el (grp (Xs ns es Pn i) m) ((el Pn (ixS ns (el es i).2.1)))).length + 1)) c367))) _ ⟨rfl, rfl, rfl, rfl, rfl, rfl, rfl, rfl, trivial⟩ ⟨hE388, ?_⟩ ?_
            ·
              try dsimp only
              refine ⟨?_, hB382, hF384, hF385⟩
              have hxy := Xs_yes (ns := ns) (es := es) (Pn := Pn) (i := i) (by assumption)
              refine ⟨by omega, by rw [List.length_set]; exact hWl, by rw [List.length_set]; exact hvl2, fun a ha => ?_, hF386, hB380, ?_⟩
              · rw [hxy, wt_snoc]
                by_cases e : (el Pn (ixS ns (el es i).1)) = a
                · have e2 : pF ns es Pn i = a := e
                  rw [if_pos e2, ← e, el_set_same (by omega), hWv _ hp1]
                · have e2 : ¬ pF ns es Pn i = a := e
                  rw [if_neg e2, el_set_ne e, hWv _ ha]; rfl
              · rw [hxy, grp_snoc (a := pT ns es Pn i) hp2]; exact hF387
            ·
              (try dsimp only); omega
          ·
            refine skip ?_
            refine kn247 _ _ ?_
            refine kn243 _ _ ?_
            refine region ?_
            refine st_q (v := .int .i64 (((i + 1) : Nat) : Int)) (x_addN rfl rfl (by omega)) ?_
            refine st_q (v := .int .i64 (((i + 1) : Nat) : Int)) (x_move rfl) ?_
            refine st_nil ?_
            refine kn226 _ ((i + 1), W, vs2) _ ⟨rfl, rfl, rfl, rfl, rfl, rfl, rfl, rfl, trivial⟩ ⟨hE299, ?_⟩ ?_
            ·
              try dsimp only
              refine ⟨?_, hB292, hF294, hF295⟩
              rw [Xs_no (Decidable.of_not_not (by assumption))]
              exact ⟨by omega, hWl, hvl2, hWv, hF296, hF297, hF298⟩
            ·
              (try dsimp only); omega
        ·
          refine exit ?_
          refine ke240 _ _ _ ?_
          refine ke228 _ _ _ ?_
          refine kb216 _ _ ?_
          refine kn205 _ _ ?_
          refine seqK fun Q390 kn391 kr392 ke393 => ?_
          refine region ?_
          have e1 : i = es.length := by omega
          have hF394 : Fam w219.heap w172.heap.size 3 enN vs2 (grp (Xs ns es Pn es.length) m) := e1 ▸ hF2
          have hWv2 : ∀ a, a < m → el W a = wt (Xs ns es Pn es.length) [] a := e1 ▸ hWv
          refine st_q (v := .func (.func 38) #[] #[.pointer (some ⟨w27.heap.size, 0, none⟩)]) (x_mkFunc (fun _ => by kernel_rfl)) ?_
          refine st_c (t_call [.func (.func 38) #[] #[.pointer (some ⟨w27.heap.size, 0, none⟩)]] T.cf37 rfl rfl) (new37 w27.heap.size _) ?_
          rintro _ w395 ⟨bh397, rfl, hx396, hH398, hbh399⟩
          refine ⟨_, rfl, ?_⟩
          have hB400 := hC220.ext hx396
          have hF401 := hC221.ext hx396
          have hF402 := Fam.ext hC222 hx396
          have hF403 := hOw.ext hx396
          have hF404 := hOk.ext hx396
          have hF405 := Fam.ext hF394 hx396
          have hE406 : Below w17.heap.size w17 w395 := hx396.e hx223 (Nat.le_refl _)
          have hz407 := hE406.le
          have hs408 := hx396.size
          have hlh : w17.heap.size ≤ w219.heap.size := by omega
          refine st_q (v := .pointer (some ⟨bh397, 0, none⟩)) (x_assign rfl) ?_
          refine st_nil ?_
          refine kn391 _ _ ?_
          refine seqK fun Q409 kn410 kr411 ke412 => ?_
          refine seqK fun Q413 kn414 kr415 ke416 => ?_
          refine region ?_
          refine st_q (v := .slice ((some ⟨w71.heap.size, 0, none⟩)) m m) (x_move rfl) ?_
          refine st_q (v := .int .i64 ((m : Nat) : Int)) (x_lenSl rfl Try.underlying38 rfl) ?_
          refine st_q (v := .int .i64 ((0 : Nat) : Int)) (x_move rfl) ?_
          refine st_nil ?_
          refine kn414 _ _ ?_
          refine blockK fun Q417 kn418 kr419 kx420 kb421 => ?_
          refine loopK (α := Nat × Value × (List (Nat × Nat)) × Nat) (fun x => [(8, .pointer (some ⟨w27.heap.size, 0, none⟩)), (11, .slice ((some ⟨w71.heap.size, 0, none⟩)) m m), (12, .slice ((some ⟨w172.heap.size, 0, none⟩)) m m), (17, .pointer (some ⟨bh397, 0, none⟩)), (115, .slice ((some ⟨w71.heap.size, 0, none⟩)) m m), (116, .int .i64 ((m : Nat) : Int)), (117, .int .i64 ((x.1 : Nat) : Int))]) (fun x w422 => Below w17.heap.size w17 w422 ∧ (x.1 ≤ m ∧ PQ0 m W x.1 x.2.2.1 ∧ x.2.2.2 = x.2.2.1.length ∧ HP (ah (cmpM ns Pn m)) x.2.2.1 ∧ HeapR w422.heap w219.heap.size 84 86 2 (Go.Eng.enE enN) bh397 (.func (.func 38) #[] #[.pointer (some ⟨w27.heap.size, 0, none⟩)]) x.2.1 x.2.2.1 x.2.2.2) ∧ Blk w422.heap w27.heap.size [.slice ((some ⟨w17.heap.size, 0, none⟩)) m m] 26 ∧ OB w422.heap w17.heap.size 22 1 w17.heap.size m (flat enV vs) ∧ Fam w422.heap w17.heap.size 9 enS vs (mem_ ns Pn m) ∧ OB w422.heap w17.heap.size 3 1 w71.heap.size m (flat enN W) ∧ OB w422.heap w17.heap.size 38 1 w172.heap.size m (flat enV vs2) ∧ Fam w422.heap w172.heap.size 3 enN vs2 (grp (Xs ns es Pn es.length) m)) (fun x => m - x.1) (0, .slice none 0 0, [], 0) ⟨rfl, rfl, rfl, rfl, rfl, rfl, rfl, trivial⟩ ?_ ?_
          ·
            refine ⟨hE406, ?_⟩
            try dsimp only
            refine ⟨?_, hB400, hF401, hF402, hF403, hF404, hF405⟩
            exact ⟨Nat.zero_le _, PQ0.nil m W, rfl, fun i _ hi => by simp at hi, hH398⟩
          ·
            rintro τ423 ⟨i, vh, H, nx⟩ w424 ⟨hx431, ⟨⟨hi, hQ0, hnx, hhp, hH⟩, hC425, hC426, hC427, hC428, hC429, hC430⟩⟩
            try dsimp only at hi hQ0 hnx hhp hH hC425 hC426 hC427 hC428 hC429 hC430
            have hz432 := hx431.le
            intro Q433 kn434 kr435 ke436
            have hHl := hQ0.lt
            refine seqK fun Q437 kn438 kr439 ke440 => ?_
            refine region ?_
            refine st_q (v := .bool (decide (i < m))) (x_lssN rfl rfl) ?_
            refine st_nil ?_
            refine kn438 _ _ ?_
            refine seqK fun Q441 kn442 kr443 ke444 => ?_
            refine cnd (p := i < m) rfl (fun h445 => ?_) (fun h445 => ?_)
            ·
              refine skip ?_
              refine kn442 _ _ ?_
              refine seqK fun Q446 kn447 kr448 ke449 => ?_
              refine blockK fun Q450 kn451 kr452 kx453 kb454 => ?_
              refine seqK fun Q455 kn456 kr457 ke458 => ?_
              refine region ?_
              refine st_q (v := .int .i64 ((i : Nat) : Int)) (x_move rfl) ?_
              refine st_q (v := .pointer (some ⟨w71.heap.size, 0 + i * 1, none⟩)) (x_index T.sl38 rfl rfl (by omega)) ?_
              refine st_q (v := .int .i64 (((el W i) : Nat) : Int)) (x_load1 T.na3 rfl (hC428.cells.elem enN_len (i := i) (by omega))) ?_
              refine st_q (v := .int .i64 ((i : Nat) : Int)) (x_assign rfl) ?_
              refine st_q (v := .int .i64 (((el W i) : Nat) : Int)) (x_assign rfl) ?_
              refine st_nil ?_
              refine kn456 _ _ ?_
              refine seqK fun Q459 kn460 kr461 ke462 => ?_
              refine region ?_
              refine st_q (v := .int .i64 (((el W i) : Nat) : Int)) (x_move rfl) ?_
              refine st_q (v := .bool (decide (((el W i)) = 0))) (x_eqlN rfl rfl) ?_
              refine st_nil ?_
              refine kn460 _ _ ?_
              refine cnd (p := ((el W i)) = 0) rfl (fun h463 => ?_) (fun h463 => ?_)
              ·
                refine region ?_
                refine st_q (v := .pointer (some ⟨bh397, 0, none⟩)) (x_move rfl) ?_
                refine st_q (v := .int .i64 ((i : Nat) : Int)) (x_move rfl) ?_
                have hSk472 := HeapR.kinds hH
                have hSl473 : ∀ i, _ → w17.heap.size ≤ i := fun i hi => Nat.le_trans hlh (HeapR.low' hH i hi)
                refine st_c (t_call [.pointer (some ⟨bh397, 0, none⟩), .int .i64 ((i : Nat) : Int)] T.cf40 rfl rfl) (push40 _ m (cmpM ns Pn m) w27.heap.size (JP.cmpr hK hvl) (cmpM_law ns Pn m) _ _ nx _ H i _ (⟨hC425, hC426, hC427⟩ : JP w27.heap.size w17.heap.size w17.heap.size m vs (mem_ ns Pn m) w424) hH (hQ0.hem (by omega)) (by omega) (by omega) (by omega) hhp) ?_
                rintro _ w464 ⟨rfl, v466, Hq467, hM465, hH468, hhp469, hPm470, hvb471⟩
                refine ⟨_, rfl, ?_⟩
                have hB474 := Blk.md hC425 hM465 hSk472 (by decide) (by decide)
                have hF475 := OB.md hC426 hM465 hSk472 (by decide) (by decide)
                have hF476 := Fam.md hC427 hM465 hSk472 (by decide) (by decide)
                have hF477 := OB.md hC428 hM465 hSk472 (by decide) (by decide)
                have hF478 := OB.md hC429 hM465 hSk472 (by decide) (by decide)
                have hF479 := Fam.md hC430 hM465 hSk472 (by decide) (by decide)
                have hE480 : Below w17.heap.size w17 w464 := Go.Eng.Below.mod' hx431 hM465 hSl473 (Nat.le_refl _)
                have hz481 := hE480.le
                have hs482 := hM465.size
                refine st_nil ?_
                refine kn451 _ _ ?_
                refine kn447 _ _ ?_
                refine region ?_
                refine st_q (v := .int .i64 (((i + 1) : Nat) : Int)) (x_addN rfl rfl (by omega)) ?_
                refine st_q (v := .int .i64 (((i + 1) : Nat) : Int)) (x_move rfl) ?_
                refine st_nil ?_
                refine kn434 _ ((i + 1), v466, Hq467, (nx + 1)) _ ⟨rfl, rfl, rfl, rfl, rfl, rfl, rfl, trivial⟩ ⟨hE480, ?_⟩ ?_
                ·
                  try dsimp only
                  refine ⟨?_, hB474, hF475, hF476, hF477, hF478, hF479⟩
                  exact ⟨by omega, hQ0.push (by assumption) hPm470, by have := hPm470.length_eq; simp at this; omega, hhp469, hH468⟩
                ·
                  (try dsimp only); omega
              ·
                refine skip ?_
                refine kn451 _ _ ?_
                refine kn447 _ _ ?_
                refine region ?_
                refine st_q (v := .int .i64 (((i + 1) : Nat) : Int)) (x_addN rfl rfl (by omega)) ?_
                refine st_q (v := .int .i64 (((i + 1) : Nat) : Int)) (x_move rfl) ?_
                refine st_nil ?_
                refine kn434 _ ((i + 1), vh, H, nx) _ ⟨rfl, rfl, rfl, rfl, rfl, rfl, rfl, trivial⟩ ⟨hx431, ?_⟩ ?_
                ·
                  try dsimp only
                  refine ⟨?_, hC425, hC426, hC427, hC428, hC429, hC430⟩
                  exact ⟨by omega, hQ0.skip (by assumption), hnx, hhp, hH⟩
                ·
                  (try dsimp only); omega
            ·
              refine exit ?_
              refine ke444 _ _ _ ?_
              refine ke436 _ _ _ ?_
              refine kb421 _ _ ?_
              refine kn410 _ _ ?_
              refine seqK fun Q483 kn484 kr485 ke486 => ?_
              refine region ?_
              have hbolt := hC426.lt
              refine st_e (e_buildSlice (cs := []) (e := 22) (fun _ => by kernel_rfl) ?_)
              intro w487 hA488
              have hx489 := hA488.ext
              have hs490 := hA488.size
              have hB491 : Blk w487.heap w424.heap.size [] 22 := hA488.new
              have hB492 := hC425.ext hx489
              have hF493 := hC426.ext hx489
              have hF494 := Fam.ext hC427 hx489
              have hF495 := hC428.ext hx489
              have hF496 := hC429.ext hx489
              have hF497 := Fam.ext hC430 hx489
              have hF498 := HeapR.ext hH hx489
              have hE499 : Below w17.heap.size w17 w487 := hx489.e hx431 (Nat.le_refl _)
              have hz500 := hE499.le
              have hs501 := hx489.size
              refine st_q (v := .slice ((some ⟨w424.heap.size, 0, none⟩)) 0 0) (x_assign rfl) ?_
              refine st_nil ?_
              refine kn484 _ _ ?_
              refine blockK fun Q502 kn503 kr504 kx505 kb506 => ?_
              refine loopK (α := (List Nat) × (List Nat) × Value × (List (Nat × Nat)) × Nat × Value) (fun x => [(8, .pointer (some ⟨w27.heap.size, 0, none⟩)), (11, .slice ((some ⟨w71.heap.size, 0, none⟩)) m m), (12, .slice ((some ⟨w172.heap.size, 0, none⟩)) m m), (17, .pointer (some ⟨bh397, 0, none⟩)), (20, x.2.2.2.2.2)]) (fun x w507 => Below w17.heap.size w17 w507 ∧ (w424.heap.size < w507.heap.size ∧ PQ m (Xs ns es Pn es.length) x.1 [] x.2.1 x.2.2.2.1 ∧ GI ns es Pn m x.1 ∧ x.2.2.2.2.1 = x.1.length + x.2.2.2.1.length ∧ HP (ah (cmpM ns Pn m)) x.2.2.2.1 ∧ HeapR w507.heap w219.heap.size 84 86 2 (Go.Eng.enE enN) bh397 (.func (.func 38) #[] #[.pointer (some ⟨w27.heap.size, 0, none⟩)]) x.2.2.1 x.2.2.2.1 x.2.2.2.2.1 ∧ OB w507.heap w17.heap.size 3 1 w71.heap.size m (flat enN x.2.1) ∧ Own w507.heap w424.heap.size 22 1 x.2.2.2.2.2 x.1.length (flat enV (x.1.map fun k => clipV (el vs k)))) ∧ Blk w507.heap w27.heap.size [.slice ((some ⟨w17.heap.size, 0, none⟩)) m m] 26 ∧ OB w507.heap w17.heap.size 22 1 w17.heap.size m (flat enV vs) ∧ Fam w507.heap w17.heap.size 9 enS vs (mem_ ns Pn m) ∧ OB w507.heap w17.heap.size 38 1 w172.heap.size m (flat enV vs2) ∧ Fam w507.heap w172.heap.size 3 enN vs2 (grp (Xs ns es Pn es.length) m)) (fun x => m - x.1.length) ([], W, vh, H, nx, .slice ((some ⟨w424.heap.size, 0, none⟩)) 0 0) ⟨rfl, rfl, rfl, rfl, rfl, trivial⟩ ?_ ?_
              ·
                refine ⟨hE499, ?_⟩
                try dsimp only
                refine ⟨?_, hB492, hF493, hF494, hF496, hF497⟩
                have e2 : i = m := by omega
                exact ⟨by omega, (e2 ▸ hQ0).done hWl hWv2, GI.start ns es Pn m, by simpa using hnx, hhp, hF498, hF495, hB491.own0 (k := 1) (by omega)⟩
              ·
                rintro τ508 ⟨em_, W2, vh, H, nx, vo⟩ w509 ⟨hx515, ⟨⟨hlo0, hQ, hG, hnx, hhp, hH, hOw, hOo⟩, hC510, hC511, hC512, hC513, hC514⟩⟩
                try dsimp only at hlo0 hQ hG hnx hhp hH hOw hOo hC510 hC511 hC512 hC513 hC514
                have hz516 := hx515.le
                intro Q517 kn518 kr519 ke520
                have hl521 := hOw.lo
                have hl522 := hOw.lt
                have hWl2 := hQ.wl
                have hHl := hQ.hlen
                have heml := hQ.emlen
                obtain ⟨a523, c524, rfl, hm525, hm526⟩ := hOo.src.form
                refine blockK fun Q527 kn528 kr529 kx530 kb531 => ?_
                refine seqK fun Q532 kn533 kr534 ke535 => ?_
                refine region ?_
                refine st_q (v := .pointer (some ⟨bh397, 0, none⟩)) (x_move rfl) ?_
                rcases Nat.eq_zero_or_pos H.length with hz | hz
                ·
                  refine st_c (t_call [.pointer (some ⟨bh397, 0, none⟩)] T.cf41 rfl rfl) (pop41_0 _ m (cmpM ns Pn m) w27.heap.size (JP.cmpr hK hvl) (cmpM_law ns Pn m) _ _ _ _ H _ (⟨hC510, hC511, hC512⟩ : JP w27.heap.size w17.heap.size w17.heap.size m vs (mem_ ns Pn m) w509) hH hz) ?_
                  rintro _ w536 ⟨rfl, hx537⟩
                  refine ⟨_, rfl, ?_⟩
                  have hB538 := hC510.ext hx537
                  have hF539 := hC511.ext hx537
                  have hF540 := Fam.ext hC512 hx537
                  have hF541 := hC513.ext hx537
                  have hF542 := Fam.ext hC514 hx537
                  have hF543 := HeapR.ext hH hx537
                  have hF544 := hOw.ext hx537
                  have hF545 := hOo.ext hx537
                  have hE546 : Below w17.heap.size w17 w536 := hx537.e hx515 (Nat.le_refl _)
                  have hz547 := hE546.le
                  have hs548 := hx537.size
                  refine st_q (v := .tuple #[.int .i64 ((0 : Nat) : Int), .bool false]) (x_move rfl) ?_
                  refine st_q (v := .int .i64 ((0 : Nat) : Int)) (x_extract rfl rfl) ?_
                  refine st_q (v := .bool false) (x_extract rfl rfl) ?_
                  refine st_q (v := .int .i64 ((0 : Nat) : Int)) (x_assign rfl) ?_
                  refine st_q (v := .bool false) (x_assign rfl) ?_
                  refine st_nil ?_
                  refine kn533 _ _ ?_
                  refine seqK fun Q549 kn550 kr551 ke552 => ?_
                  refine seqK fun Q553 kn554 kr555 ke556 => ?_
                  refine region ?_
                  refine st_q (v := .bool false) (x_move rfl) ?_
                  refine st_q (v := .bool true) (x_notB (b := false) rfl) ?_
                  refine st_nil ?_
                  refine kn554 _ _ ?_
                  refine cndT rfl ?_
                  refine seqK fun Q557 kn558 kr559 ke560 => ?_
                  refine region ?_
                  refine st_q (v := .slice a523 em_.length c524) (x_move rfl) ?_
                  refine st_q (v := .slice a523 em_.length c524) (x_assign rfl) ?_
                  refine st_nil ?_
                  refine kn558 _ _ ?_
                  refine ret ?_
                  refine kr551 _ _ ?_
                  refine kr529 _ _ ?_
                  refine kr519 _ _ ?_
                  refine kr504 _ _ ?_
                  refine leave1 (P := Try.prog) (fn := Try.f11) (t := 4) (v := .slice a523 em_.length c524) rfl rfl ?_
                  have hH0 : H = [] := List.eq_nil_of_length_eq_zero hz
                  rw [hH0] at hQ
                  subst hns
                  exact ⟨_, _, _, rfl, (Below.e hE546 hx20 (Nat.le_refl _)), hG.done hK hQ, by rw [List.length_map]; exact hF545.weak (by omega), PartsIn.of hF540 hvl (by omega) (fun a ha => hK.memne ha) hQ.en hQ.el_⟩
                ·
                  have hSk569 := HeapR.kinds hH
                  have hSl570 : ∀ i, _ → w17.heap.size ≤ i := fun i hi => Nat.le_trans hlh (HeapR.low' hH i hi)
                  refine st_c (t_call [.pointer (some ⟨bh397, 0, none⟩)] T.cf41 rfl rfl) (pop41 _ m (cmpM ns Pn m) w27.heap.size (JP.cmpr hK hvl) (cmpM_law ns Pn m) _ _ _ _ H _ (⟨hC510, hC511, hC512⟩ : JP w27.heap.size w17.heap.size w17.heap.size m vs (mem_ ns Pn m) w509) hH hQ.hem hz (by omega) hhp) ?_
                  rintro _ w561 ⟨rfl, v563, Hq564, hM562, hH565, hhp566, hPm567, hvb568⟩
                  refine ⟨_, rfl, ?_⟩
                  have hB571 := Blk.md hC510 hM562 hSk569 (by decide) (by decide)
                  have hF572 := OB.md hC511 hM562 hSk569 (by decide) (by decide)
                  have hF573 := Fam.md hC512 hM562 hSk569 (by decide) (by decide)
                  have hF574 := OB.md hC513 hM562 hSk569 (by decide) (by decide)
                  have hF575 := Fam.md hC514 hM562 hSk569 (by decide) (by decide)
                  have hF576 := OB.md hOw hM562 hSk569 (by decide) (by decide)
                  have hF577 := Own.md hOo hM562 hSk569 (by decide) (by decide)
                  have hE578 : Below w17.heap.size w17 w561 := Go.Eng.Below.mod' hx515 hM562 hSl570 (Nat.le_refl _)
                  have hz579 := hE578.le
                  have hs580 := hM562.size
                  have hQ2 := hQ.pop hz hPm567
                  have hG2 := hG.step hK hQ hz hhp
                  have hI0 : (el H 0).1 < m := hQ.hem 0 hz
                  have hlp := hPm567.length_eq
                  rw [List.length_cons] at hlp
                  have hem2 := hQ2.emlen
                  have hem3 : em_.length + 1 ≤ m := by simpa using hem2
                  have hbk : ∀ a, _ → _ := fun a (ha : a ∈ ((Xs ns es Pn es.length).filter fun x => decide (x.1 = (el H 0).1)).map (·.2)) => hQ.back hK.xs_lt hz ha
                  refine st_q (v := .tuple #[.int .i64 (((el H 0).1 : Nat) : Int), .bool true]) (x_move rfl) ?_
                  refine st_q (v := .int .i64 (((el H 0).1 : Nat) : Int)) (x_extract rfl rfl) ?_
                  refine st_q (v := .bool true) (x_extract rfl rfl) ?_
                  refine st_q (v := .int .i64 (((el H 0).1 : Nat) : Int)) (x_assign rfl) ?_
                  refine st_q (v := .bool true) (x_assign rfl) ?_
                  refine st_nil ?_
                  refine kn533 _ _ ?_
                  refine seqK fun Q581 kn582 kr583 ke584 => ?_
                  refine seqK fun Q585 kn586 kr587 ke588 => ?_
                  refine region ?_
                  refine st_q (v := .bool true) (x_move rfl) ?_
                  refine st_q (v := .bool false) (x_notB (b := true) rfl) ?_
                  refine st_nil ?_
                  refine kn586 _ _ ?_
                  refine cndF rfl ?_
                  refine skip ?_
                  refine kn582 _ _ ?_
                  refine seqK fun Q589 kn590 kr591 ke592 => ?_
                  refine region ?_
                  refine st_q (v := .slice a523 em_.length c524) (x_move rfl) ?_
                  refine st_q (v := .slice ((some ⟨w17.heap.size, 0, none⟩)) m m) (x_load1 T.na26 rfl (hB571.one 0 rfl)) ?_
                  refine st_q (v := .int .i64 (((el H 0).1 : Nat) : Int)) (x_move rfl) ?_
                  refine st_q (v := .pointer (some ⟨w17.heap.size, 0 + ((el H 0).1) * 1, none⟩)) (x_index T.sl26 rfl rfl (by omega)) ?_
                  have hr596 := hF573.own ((el H 0).1) (by have := hF573.len; omega)
                  obtain ⟨q593, c594, e595, _, _⟩ := hr596.src.form
                  rw [e595] at hr596
                  refine st_q (v := .slice q593 ((el (mem_ ns Pn m) ((el H 0).1)).length) c594) (x_load1 T.na22 rfl (Cells.conv (hF572.cells.elem enV_len (i := (el H 0).1) (by omega)) e595)) ?_
                  have hcpl := hr596.src.capl
                  refine st_c (t_call [.slice q593 ((el (mem_ ns Pn m) ((el H 0).1)).length) c594] T.cf42 rfl rfl) (clip42 _ _ _ hcpl.2.1 hcpl.2.2 _) ?_
                  rintro _ _ ⟨rfl, rfl⟩
                  refine ⟨_, rfl, ?_⟩
                  have hclip : clipV (el vs (el H 0).1) = .slice q593 (el (mem_ ns Pn m) ((el H 0).1)).length (el (mem_ ns Pn m) ((el H 0).1)).length := by rw [e595]; rfl
                  refine st_e (e_buildSlice (cs := [.slice q593 ((el (mem_ ns Pn m) ((el H 0).1)).length) ((el (mem_ ns Pn m) ((el H 0).1)).length)]) (e := 22) (fun _ => by kernel_rfl) ?_)
                  intro w597 hA598
                  have hx599 := hA598.ext
                  have hs600 := hA598.size
                  have hB601 : Blk w597.heap w561.heap.size [.slice q593 ((el (mem_ ns Pn m) ((el H 0).1)).length) ((el (mem_ ns Pn m) ((el H 0).1)).length)] 22 := hA598.new
                  have hB602 := hB571.ext hx599
                  have hF603 := hF572.ext hx599
                  have hF604 := Fam.ext hF573 hx599
                  have hF605 := hF574.ext hx599
                  have hF606 := Fam.ext hF575 hx599
                  have hF607 := hF576.ext hx599
                  have hF608 := hF577.ext hx599
                  have hF609 := HeapR.ext hH565 hx599
                  have hF610 := hr596.ext hx599
                  have hE611 : Below w17.heap.size w17 w597 := hx599.e hE578 (Nat.le_refl _)
                  have hz612 := hE611.le
                  have hs613 := hx599.size
                  refine st_e (e_appendX T.sl26 rfl rfl hF608 (hB601.src1 (k := 1) (m := 1) rfl (by omega)) (ones (by rfl)) (by omega) (by decide) (by omega) ?_)
                  intro v614 w615 hO616 hG617 hN618 hW619
                  have hB620 := hB602.gk (hG617) (hF608.rowk) (by decide)
                  have hF621 := hF603.grown hG617 (fun e => by first | exact hne e | (have := (hF608.lt e).1; clear e; omega) | (have := (hO.lt e).2; clear e; omega))
                  have hF622 := Fam.gk hF604 (hG617) (hF608.rowk) (by decide)
                  have hF623 := hF605.gk (hG617) (hF608.rowk) (by decide)
                  have hF624 := Fam.gk hF606 (hG617) (hF608.rowk) (by decide)
                  have hF625 := hF607.gk (hG617) (hF608.rowk) (by decide)
                  have hF626 := HeapR.gk hF609 (hG617) (hF608.rowk) (by decide) (by decide)
                  have hF627 := hF610.gk (hG617) (hF608.rowk) (by decide)
                  have hE628 : Below w17.heap.size w17 w615 := grown_below hG617 hE611 (Nat.le_refl _) (fun b hb => (by have := (hF608.lt hb).1; clear hb; omega))
                  have hz629 := hE628.le
                  have hs630 := hG617.size
                  have hO631 := Own.snoc (enc := enV) (u := .slice q593 ((el (mem_ ns Pn m) ((el H 0).1)).length) ((el (mem_ ns Pn m) ((el H 0).1)).length)) hO616
                  obtain ⟨a632, c633, rfl, hm634, hm635⟩ := hO631.src.form
                  refine st_q (v := .slice a632 ((em_.length + 1)) c633) (x_assign rfl) ?_
                  refine st_nil ?_
                  refine kn590 _ _ ?_
                  refine seqK fun Q636 kn637 kr638 ke639 => ?_
                  refine region ?_
                  refine st_q (v := .slice ((some ⟨w172.heap.size, 0, none⟩)) m m) (x_move rfl) ?_
                  refine st_q (v := .int .i64 (((el H 0).1 : Nat) : Int)) (x_move rfl) ?_
                  refine st_q (v := .pointer (some ⟨w172.heap.size, 0 + ((el H 0).1) * 1, none⟩)) (x_index T.sl63 rfl rfl (by omega)) ?_
                  have hr643 := hF624.own ((el H 0).1) (by have := hF624.len; omega)
                  obtain ⟨q640, c641, e642, _, _⟩ := hr643.src.form
                  rw [e642] at hr643
                  refine st_q (v := .slice q640 ((el (grp (Xs ns es Pn es.length) m) ((el H 0).1)).length) c641) (x_load1 T.na38 rfl (Cells.conv (hF623.cells.elem enV_len (i := (el H 0).1) (by omega)) e642)) ?_
                  refine st_q (v := .int .i64 (((el (grp (Xs ns es Pn es.length) m) ((el H 0).1)).length : Nat) : Int)) (x_lenSl rfl Try.underlying38 rfl) ?_
                  refine st_q (v := .int .i64 ((0 : Nat) : Int)) (x_move rfl) ?_
                  refine st_nil ?_
                  refine kn637 _ _ ?_
                  refine blockK fun Q644 kn645 kr646 kx647 kb648 => ?_
                  refine loopK (α := Nat × (List Nat) × Value × (List (Nat × Nat)) × Nat) (fun x => [(8, .pointer (some ⟨w27.heap.size, 0, none⟩)), (11, .slice ((some ⟨w71.heap.size, 0, none⟩)) m m), (12, .slice ((some ⟨w172.heap.size, 0, none⟩)) m m), (17, .pointer (some ⟨bh397, 0, none⟩)), (20, .slice a632 ((em_.length + 1)) c633), (148, .slice q640 ((el (grp (Xs ns es Pn es.length) m) ((el H 0).1)).length) c641), (149, .int .i64 (((el (grp (Xs ns es Pn es.length) m) ((el H 0).1)).length : Nat) : Int)), (150, .int .i64 ((x.1 : Nat) : Int))]) (fun x w649 => Below w17.heap.size w17 w649 ∧ (w424.heap.size < w649.heap.size ∧ x.1 ≤ (el (grp (Xs ns es Pn es.length) m) (el H 0).1).length ∧ PQ m (Xs ns es Pn es.length) (em_ ++ [(el H 0).1]) ((el (grp (Xs ns es Pn es.length) m) (el H 0).1).drop x.1) x.2.1 x.2.2.2.1 ∧ x.2.2.2.2 = em_.length + 1 + x.2.2.2.1.length ∧ HP (ah (cmpM ns Pn m)) x.2.2.2.1 ∧ HeapR w649.heap w219.heap.size 84 86 2 (Go.Eng.enE enN) bh397 (.func (.func 38) #[] #[.pointer (some ⟨w27.heap.size, 0, none⟩)]) x.2.2.1 x.2.2.2.1 x.2.2.2.2 ∧ OB w649.heap w17.heap.size 3 1 w71.heap.size m (flat enN x.2.1)) ∧ Blk w649.heap w27.heap.size [.slice ((some ⟨w17.heap.size, 0, none⟩)) m m] 26 ∧ OB w649.heap w17.heap.size 22 1 w17.heap.size m (flat enV vs) ∧ Fam w649.heap w17.heap.size 9 enS vs (mem_ ns Pn m) ∧ OB w649.heap w17.heap.size 38 1 w172.heap.size m (flat enV vs2) ∧ Fam w649.heap w172.heap.size 3 enN vs2 (grp (Xs ns es Pn es.length) m) ∧ Own w649.heap w17.heap.size 9 1 (.slice q593 (el (mem_ ns Pn m) ((el H 0).1)).length c594) (el (mem_ ns Pn m) ((el H 0).1)).length (flat enS (el (mem_ ns Pn m) ((el H 0).1))) ∧ Own w649.heap w424.heap.size 22 1 (.slice a632 (em_.length + 1) c633) (em_.length + 1) (flat enV ((em_.map fun k => clipV (el vs k)) ++ [.slice q593 ((el (mem_ ns Pn m) ((el H 0).1)).length) ((el (mem_ ns Pn m) ((el H 0).1)).length)])) ∧ Own w649.heap w172.heap.size 3 1 (.slice q640 (el (grp (Xs ns es Pn es.length) m) ((el H 0).1)).length c641) (el (grp (Xs ns es Pn es.length) m) ((el H 0).1)).length (flat enN (el (grp (Xs ns es Pn es.length) m) ((el H 0).1)))) (fun x => (el (grp (Xs ns es Pn es.length) m) (el H 0).1).length - x.1) (0, W2, v563, Hq564, nx) ⟨rfl, rfl, rfl, rfl, rfl, rfl, rfl, rfl, trivial⟩ ?_ ?_
                  ·
                    refine ⟨hE628, ?_⟩
                    try dsimp only
                    refine ⟨?_, hB620, hF621, hF622, hF623, hF624, hF627, hO631, hr643⟩
                    exact ⟨by omega, Nat.zero_le _, by rw [List.drop_zero, grp_el hI0]; exact hQ2, by omega, hhp566, hF626, hF625⟩
                  ·
                    rintro τ650 ⟨j, W3, v3, H3, nx3⟩ w651 ⟨hx660, ⟨⟨hlo3, hj, hQ3, hnx3, hh3, hH3, hOw3⟩, hC652, hC653, hC654, hC655, hC656, hC657, hC658, hC659⟩⟩
                    try dsimp only at hlo3 hj hQ3 hnx3 hh3 hH3 hOw3 hC652 hC653 hC654 hC655 hC656 hC657 hC658 hC659
                    have hz661 := hx660.le
                    intro Q662 kn663 kr664 ke665
                    have hl666 := hOw3.lo
                    have hl667 := hOw3.lt
                    have hWl3 := hQ3.wl
                    have hHl3 := hQ3.hlen
                    have hrowl : (el (grp (Xs ns es Pn es.length) m) (el H 0).1).length ≤ es.length := Nat.le_trans (grp_row_le hI0) (Xs_len _)
                    refine seqK fun Q668 kn669 kr670 ke671 => ?_
                    refine region ?_
                    refine st_q (v := .bool (decide (j < ((el (grp (Xs ns es Pn es.length) m) ((el H 0).1)).length)))) (x_lssN rfl rfl) ?_
                    refine st_nil ?_
                    refine kn669 _ _ ?_
                    refine seqK fun Q672 kn673 kr674 ke675 => ?_
                    refine cnd (p := j < ((el (grp (Xs ns es Pn es.length) m) ((el H 0).1)).length)) rfl (fun h676 => ?_) (fun h676 => ?_)
                    ·
                      refine skip ?_
                      refine kn673 _ _ ?_
                      refine seqK fun Q677 kn678 kr679 ke680 => ?_
                      refine blockK fun Q681 kn682 kr683 kx684 kb685 => ?_
                      refine seqK fun Q686 kn687 kr688 ke689 => ?_
                      refine region ?_
                      obtain ⟨b690, o691, ha692, hc693⟩ := hC659.src.at (by omega)
                      refine st_q (v := .pointer (some ⟨b690, o691 + j * 1, none⟩)) (x_index' T.sl38 rfl ha692 rfl (by omega)) ?_
                      have hab := hbk (el (el (grp (Xs ns es Pn es.length) m) (el H 0).1) j) (by rw [← grp_el hI0]; exact el_memL (by omega))
                      have hab1 := hab.1
                      rw [drop_el (by omega)] at hQ3
                      have hwp := hQ3.waitpos hab1
                      have hwle : el W3 (el (el (grp (Xs ns es Pn es.length) m) (el H 0).1) j) ≤ 4194304 := by have h := hQ3.val _ hab1; rw [h]; have h2 := wt_le (Xs ns es Pn es.length) (em_ ++ [(el H 0).1]) (el (el (grp (Xs ns es Pn es.length) m) (el H 0).1) j); have h3 := Xs_len (ns := ns) (es := es) (Pn := Pn) es.length; have h4 := List.count_le_length (a := (el (el (grp (Xs ns es Pn es.length) m) (el H 0).1) j)) (l := (el (el (grp (Xs ns es Pn es.length) m) (el H 0).1) j) :: (el (grp (Xs ns es Pn es.length) m) (el H 0).1).drop (j + 1)); rw [List.length_cons, List.length_drop] at h4; omega
                      refine st_q (v := .int .i64 (((el (el (grp (Xs ns es Pn es.length) m) ((el H 0).1)) j) : Nat) : Int)) (x_load1 T.na3 rfl (hc693.elem enN_len (i := j) (by omega))) ?_
                      refine st_q (v := .int .i64 (((el (el (grp (Xs ns es Pn es.length) m) ((el H 0).1)) j) : Nat) : Int)) (x_assign rfl) ?_
                      refine st_nil ?_
                      refine kn687 _ _ ?_
                      refine seqK fun Q694 kn695 kr696 ke697 => ?_
                      refine region ?_
                      refine st_q (v := .slice ((some ⟨w71.heap.size, 0, none⟩)) m m) (x_move rfl) ?_
                      refine st_q (v := .int .i64 (((el (el (grp (Xs ns es Pn es.length) m) ((el H 0).1)) j) : Nat) : Int)) (x_move rfl) ?_
                      refine st_q (v := .pointer (some ⟨w71.heap.size, 0 + ((el (el (grp (Xs ns es Pn es.length) m) ((el H 0).1)) j)) * 1, none⟩)) (x_index T.sl38 rfl rfl (by omega)) ?_
                      refine st_q (v := .int .i64 (((el W3 ((el (el (grp (Xs ns es Pn es.length) m) ((el H 0).1)) j))) : Nat) : Int)) (x_load1 T.na3 rfl (hOw3.cells.elem enN_len (i := (el (el (grp (Xs ns es Pn es.length) m) ((el H 0).1)) j)) (by first | omega | (rw [List.length_set]; omega)))) ?_
                      refine st_q (v := .int .i64 ((((el W3 ((el (el (grp (Xs ns es Pn es.length) m) ((el H 0).1)) j))) - 1) : Nat) : Int)) (x_subN rfl rfl (by omega) (by omega)) ?_
                      refine st_q (v := .pointer (some ⟨w71.heap.size, 0 + ((el (el (grp (Xs ns es Pn es.length) m) ((el H 0).1)) j)) * 1, none⟩)) (x_index T.sl38 rfl rfl (by omega)) ?_
                      refine st_s (e_stO (v := .int .i64 ((((el W3 ((el (el (grp (Xs ns es Pn es.length) m) ((el H 0).1)) j))) - 1) : Nat) : Int)) (u := ((el W3 ((el (el (grp (Xs ns es Pn es.length) m) ((el H 0).1)) j))) - 1)) enN_len T.sz3 rfl rfl rfl hOw3 (by first | omega | (rw [List.length_set]; omega)) (by rfl) ?_)
                      intro w698 _ hP699 hB700
                      have hs701 := hP699.size
                      have hB702 := hC652.gk (hP699.grownBy) (hOw3.rowk) (by decide)
                      have hF703 := hC653.gk (hP699.grownBy) (hOw3.rowk) (by decide)
                      have hF704 := Fam.gk hC654 (hP699.grownBy) (hOw3.rowk) (by decide)
                      have hF705 := hC655.gk (hP699.grownBy) (hOw3.rowk) (by decide)
                      have hF706 := Fam.ptLt hC656 hP699 (by omega)
                      have hF707 := hC657.gk (hP699.grownBy) (hOw3.rowk) (by decide)
                      have hF708 := hC658.gk (hP699.grownBy) (hOw3.rowk) (by decide)
                      have hF709 := hC659.pt hP699 (by first | (intro e; have := (hC659.lt e).1; clear e; omega) | (simp [Value.ownBlock]; omega))
                      have hF710 := HeapR.gk hH3 (hP699.grownBy) (hOw3.rowk) (by decide) (by decide)
                      have hE712 : Below w17.heap.size w17 w698 := hP699.below hx660 (by omega)
                      have hz713 := hE712.le
                      refine st_nil ?_
                      refine kn695 _ _ ?_
                      refine seqK fun Q714 kn715 kr716 ke717 => ?_
                      refine region ?_
                      refine st_q (v := .slice ((some ⟨w71.heap.size, 0, none⟩)) m m) (x_move rfl) ?_
                      refine st_q (v := .int .i64 (((el (el (grp (Xs ns es Pn es.length) m) ((el H 0).1)) j) : Nat) : Int)) (x_move rfl) ?_
                      refine st_q (v := .pointer (some ⟨w71.heap.size, 0 + ((el (el (grp (Xs ns es Pn es.length) m) ((el H 0).1)) j)) * 1, none⟩)) (x_index T.sl38 rfl rfl (by omega)) ?_
                      have hqz : el (W3.set (el (el (grp (Xs ns es Pn es.length) m) (el H 0).1) j) (el W3 (el (el (grp (Xs ns es Pn es.length) m) (el H 0).1) j) - 1)) (el (el (grp (Xs ns es Pn es.length) m) (el H 0).1) j) = el W3 (el (el (grp (Xs ns es Pn es.length) m) (el H 0).1) j) - 1 := el_set_same (by omega) _
                      refine st_q (v := .int .i64 (((el (W3.set ((el (el (grp (Xs ns es Pn es.length) m) ((el H 0).1)) j)) (((el W3 ((el (el (grp (Xs ns es Pn es.length) m) ((el H 0).1)) j))) - 1))) ((el (el (grp (Xs ns es Pn es.length) m) ((el H 0).1)) j))) : Nat) : Int)) (x_load1 T.na3 rfl (hB700.cells.elem enN_len (i := (el (el (grp (Xs ns es Pn es.length) m) ((el H 0).1)) j)) (by first | omega | (rw [List.length_set]; omega)))) ?_
                      refine st_q (v := .bool (decide (((el (W3.set ((el (el (grp (Xs ns es Pn es.length) m) ((el H 0).1)) j)) (((el W3 ((el (el (grp (Xs ns es Pn es.length) m) ((el H 0).1)) j))) - 1))) ((el (el (grp (Xs ns es Pn es.length) m) ((el H 0).1)) j)))) = 0))) (x_eqlN rfl rfl) ?_
                      refine st_nil ?_
                      refine kn715 _ _ ?_
                      refine cnd (p := ((el (W3.set ((el (el (grp (Xs ns es Pn es.length) m) ((el H 0).1)) j)) (((el W3 ((el (el (grp (Xs ns es Pn es.length) m) ((el H 0).1)) j))) - 1))) ((el (el (grp (Xs ns es Pn es.length) m) ((el H 0).1)) j)))) = 0) rfl (fun h718 => ?_) (fun h718 => ?_)
                      ·
                        refine region ?_
                        refine st_q (v := .pointer (some ⟨bh397, 0, none⟩)) (x_move rfl) ?_
                        refine st_q (v := .int .i64 (((el (el (grp (Xs ns es Pn es.length) m) ((el H 0).1)) j) : Nat) : Int)) (x_move rfl) ?_
                        have hSk727 := HeapR.kinds hF710
                        have hSl728 : ∀ i, _ → w17.heap.size ≤ i := fun i hi => Nat.le_trans hlh (HeapR.low' hF710 i hi)
                        refine st_c (t_call [.pointer (some ⟨bh397, 0, none⟩), .int .i64 (((el (el (grp (Xs ns es Pn es.length) m) ((el H 0).1)) j) : Nat) : Int)] T.cf40 rfl rfl) (push40 _ m (cmpM ns Pn m) w27.heap.size (JP.cmpr hK hvl) (cmpM_law ns Pn m) _ _ nx3 _ H3 ((el (el (grp (Xs ns es Pn es.length) m) (el H 0).1) j)) _ (⟨hB702, hF703, hF704⟩ : JP w27.heap.size w17.heap.size w17.heap.size m vs (mem_ ns Pn m) w698) hF710 hQ3.hem hab1 (by omega) (by omega) hh3) ?_
                        rintro _ w719 ⟨rfl, v721, Hq722, hM720, hH723, hhp724, hPm725, hvb726⟩
                        refine ⟨_, rfl, ?_⟩
                        have hB729 := Blk.md hB702 hM720 hSk727 (by decide) (by decide)
                        have hF730 := OB.md hF703 hM720 hSk727 (by decide) (by decide)
                        have hF731 := Fam.md hF704 hM720 hSk727 (by decide) (by decide)
                        have hF732 := OB.md hF705 hM720 hSk727 (by decide) (by decide)
                        have hF733 := Fam.md hF706 hM720 hSk727 (by decide) (by decide)
                        have hF734 := Own.md hF707 hM720 hSk727 (by decide) (by decide)
                        have hF735 := Own.md hF708 hM720 hSk727 (by decide) (by decide)
                        have hF736 := Own.md hF709 hM720 hSk727 (by decide) (by decide)
                        have hF737 := OB.md hB700 hM720 hSk727 (by decide) (by decide)
                        have hE738 : Below w17.heap.size w17 w719 := Go.Eng.Below.mod' hE712 hM720 hSl728 (Nat.le_refl _)
                        have hz739 := hE738.le
                        have hs740 := hM720.size
                        refine st_nil ?_
                        refine kn682 _ _ ?_
                        refine kn678 _ _ ?_
                        refine region ?_
                        refine st_q (v := .int .i64 (((j + 1) : Nat) : Int)) (x_addN rfl rfl (by omega)) ?_
                        refine st_q (v := .int .i64 (((j + 1) : Nat) : Int)) (x_move rfl) ?_
                        refine st_nil ?_
                        refine kn663 _ ((j + 1), (W3.set ((el (el (grp (Xs ns es Pn es.length) m) ((el H 0).1)) j)) (((el W3 ((el (el (grp (Xs ns es Pn es.length) m) ((el H 0).1)) j))) - 1))), v721, Hq722, (nx3 + 1)) _ ⟨rfl, rfl, rfl, rfl, rfl, rfl, rfl, rfl, trivial⟩ ⟨hE738, ?_⟩ ?_
                        ·
                          try dsimp only
                          refine ⟨?_, hB729, hF730, hF731, hF732, hF733, hF734, hF735, hF736⟩
                          exact ⟨by omega, by omega, hQ3.push hab1 hab.2 (by rw [← hqz]; assumption) hPm725, by have := hPm725.length_eq; simp at this; omega, hhp724, hH723, hF737⟩
                        ·
                          (try dsimp only); omega
                      ·
                        refine skip ?_
                        refine kn682 _ _ ?_
                        refine kn678 _ _ ?_
                        refine region ?_
                        refine st_q (v := .int .i64 (((j + 1) : Nat) : Int)) (x_addN rfl rfl (by omega)) ?_
                        refine st_q (v := .int .i64 (((j + 1) : Nat) : Int)) (x_move rfl) ?_
                        refine st_nil ?_
                        refine kn663 _ ((j + 1), (W3.set ((el (el (grp (Xs ns es Pn es.length) m) ((el H 0).1)) j)) (((el W3 ((el (el (grp (Xs ns es Pn es.length) m) ((el H 0).1)) j))) - 1))), v3, H3, nx3) _ ⟨rfl, rfl, rfl, rfl, rfl, rfl, rfl, rfl, trivial⟩ ⟨hE712, ?_⟩ ?_
                        ·
                          try dsimp only
                          refine ⟨?_, hB702, hF703, hF704, hF705, hF706, hF707, hF708, hF709⟩
                          exact ⟨by omega, by omega, hQ3.keep hab1 (by rw [← hqz]; assumption), hnx3, hh3, hF710, hB700⟩
                        ·
                          (try dsimp only); omega
                    ·
                      refine exit ?_
                      refine ke675 _ _ _ ?_
                      refine ke665 _ _ _ ?_
                      refine kb648 _ _ ?_
                      refine kn528 _ _ ?_
                      refine kn518 _ ((em_ ++ [(el H 0).1]), W3, v3, H3, nx3, .slice a632 ((em_.length + 1)) c633) _ ⟨rfl, rfl, rfl, rfl, rfl, trivial⟩ ⟨hx660, ?_⟩ ?_
                      ·
                        try dsimp only
                        refine ⟨?_, hC652, hC653, hC654, hC655, hC656⟩
                        have e3 : j = (el (grp (Xs ns es Pn es.length) m) (el H 0).1).length := by omega
                        rw [e3, List.drop_length] at hQ3
                        exact ⟨by omega, hQ3, hG2, by rw [List.length_append]; simpa using hnx3, hh3, hH3, hOw3, by rw [List.map_append, List.length_append]; show Own _ _ _ _ _ _ (flat enV (_ ++ [clipV (el vs (el H 0).1)])); rw [hclip]; exact hC658⟩
                      ·
                        (try dsimp only)
                        rw [List.length_append]
                        have := hem3
                        simp only [List.length_singleton]
                        omega

end Go.Proofs.Ytknfjgbipfpnjaa
