import Derived.Test.YtknfjgbipfpnjaaGF
namespace Go.Proofs.Ytknfjgbipfpnjaa
open Go.RowKit Go.Eng Go.OrdPure
open Go.Knot


structure RowsN (h : Array Obj) (va : Value) (vs : List Value) (rows : List (List Nat)) : Prop where
  len : vs.length = rows.length
  src : Src h va rows.length 1 (flat enV vs)
  row : ∀ i, i < rows.length → ∃ q c, el vs i = .slice q (el rows i).length c ∧ Src h (.slice q (el rows i).length c) (el rows i).length 1 (flat enN (el rows i))
theorem Blk.own1 {h : Array Obj} {b m : Nat} {cs : List Value} {T : TypeId} {k : Nat} (hb : Blk h b cs T) (hl : cs.length = m * k) (hm : m ≤ 9223372036854775807) : Own h b T k (.slice (some ⟨b, 0, none⟩) m m) m cs :=
  OB.own ⟨Nat.le_refl _, ⟨[], by rw [List.append_nil]; exact hb, by rw [List.append_nil]; exact hl⟩, hm⟩ (Nat.le_refl _) hl
theorem BI.dn' {out : Nat → List Nat} {n t : Nat} {fr to : Nat → Nat} {E i : Nat} {L : List Nat} {F : List Int} {dn dn' : Nat → Prop} (h : BI out n t fr to E i L F dn) (hd : ∀ k, dn' k → dn k) : BI out n t fr to E i L F dn' :=
  ⟨h.len, h.nd, h.lt, h.mem, h.neg, h.snd, h.mono, h.step, h.bnd, h.frm, fun k hk hc => h.prc k hk (hc.imp id (hd k))⟩
theorem BI.range {out : Nat → List Nat} {n t : Nat} {fr to : Nat → Nat} {E i : Nat} {L : List Nat} {F : List Int} {dn : Nat → Prop} (h : BI out n t fr to E i L F dn) {u : Nat} (hu : u < n) : -1 ≤ el F u ∧ el F u ≤ n := by
  refine ⟨h.neg u hu, ?_⟩
  by_cases hm : u ∈ L
  · have := h.bnd u hm; have := h.llen; omega
  · have := mt (h.mem u hu).1 hm; omega
theorem RowsN.below {w w' : World} {va : Value} {vs : List Value} {rows : List (List Nat)} (h : RowsN w.heap va vs rows) (hb : Below w.heap.size w w') : RowsN w'.heap va vs rows :=
  ⟨h.len, h.src.below hb, fun i hi => let ⟨q, c, e, hs⟩ := h.row i hi; ⟨q, c, e, hs.below hb⟩⟩
theorem RowsN.of {w : World} {lo lo2 b n : Nat} {vs : List Value} {rows : List (List Nat)} (ho : OB w.heap lo 38 1 b n (flat enV vs)) (hf : Fam w.heap lo2 3 enN vs rows) (hn : rows.length = n) : RowsN w.heap (.slice (some ⟨b, 0, none⟩) n n) vs rows := by
  have hl := hf.len
  refine ⟨hl, ?_, fun i hi => ?_⟩
  · rw [hn]; exact (ho.own (Nat.le_refl _) (by rw [flat_length enV_len, hl, hn])).src
  · have h1 := (hf.own i (by omega)).src
    obtain ⟨q, c, e, _⟩ := h1.form
    rw [e] at h1
    exact ⟨q, c, e, h1⟩
theorem take_succ_mem {row : List Nat} {j : Nat} (hj : j < row.length) {k : Nat} (h : k ∈ row.take (j + 1)) : k = el row j ∨ k ∈ row.take j := by
  rw [take_succ_el hj, List.mem_append, List.mem_singleton] at h
  exact h.symm
theorem outN_edge {ns : List ByteArray} {es : List Edge} : ∀ u c, u < ns.length → c ∈ outN ns es u → ∃ k, k < es.length ∧ tF ns es k = u ∧ tgt ns es k = c := fun u c _ hc => by
  obtain ⟨k, h1, h2, h3⟩ := outN_mem.1 hc
  exact ⟨k, h1, h2, h3⟩
theorem tgt_mem {ns : List ByteArray} {es : List Edge} {k : Nat} (hk : k < es.length) : tgt ns es k ∈ outN ns es (tF ns es k) := outN_mem.2 ⟨k, hk, rfl, rfl⟩
set_option maxHeartbeats 4000000 in
theorem back46 (ns : List ByteArray) (es : List Edge) (g t : Nat) (D : NetD) (va vi : Value) (vs : List Value) (w0 : World) (hN : Net w0 g D ns es) (ha : Src w0.heap va es.length 3 (flat enE es)) (hI : RowsN w0.heap vi vs (grp (zipI (tgt ns es) es.length) ns.length)) (ht : t < ns.length) : Calls Try.prog 46 #[.pointer (some ⟨g, 0, none⟩), va, vi, .int .i64 ((t : Nat) : Int)] w0 fun e w' => ∃ v F, e = .returned v ∧ Ext w0 w' ∧ Dst (outN ns es) ns.length t F ∧ (∀ u, u < ns.length → -1 ≤ el F u ∧ el F u ≤ ns.length) ∧ Own w'.heap w0.heap.size 3 1 v ns.length (flat enI F) := by
  have hE0 : Below w0.heap.size w0 w0 := Below.refl _ _
  have hz0 := hE0.le
  obtain ⟨a, ca, rfl, hca, hca1⟩ := ha.form
  have hIl := hI.len
  rw [grp_len] at hIl
  have hIs := hI.src
  rw [grp_len] at hIs
  obtain ⟨ai, ci, rfl, hci, hci1⟩ := hIs.form
  have hfit := hN.fit
  have hends := hN.ends
  have hvlen := hN.vlen
  refine enter Try.func46 rfl 86 Try.ntmps46 rfl ?_
  refine seqK fun Q1 kn2 kr3 ke4 => ?_
  refine region ?_
  refine st_q (v := .slice none 0 0) (x_assign rfl) ?_
  refine st_nil ?_
  refine kn2 _ _ ?_
  refine seqK fun Q5 kn6 kr7 ke8 => ?_
  refine region ?_
  refine st_q (v := .pointer (some ⟨g, 0, none⟩)) (x_move rfl) ?_
  refine st_q (v := .pointer (some ⟨g, 0, none⟩)) (x_nilCheck rfl) ?_
  refine st_q (v := .pointer (some ⟨g, 0, none⟩)) (x_field (o := 0) T.fa65_0 rfl) ?_
  refine st_q (v := .slice D.na ns.length D.nc) (x_load1 T.na22 rfl ((hN.blk.keep (hE0.block _ hN.blk.lt)).one 0 rfl)) ?_
  refine st_q (v := .int .i64 ((ns.length : Nat) : Int)) (x_lenSl rfl Try.underlying22 rfl) ?_
  refine st_e (e_makeSlice T.sl38 rfl rfl (by omega) (by omega) ?_)
  intro w9 hA10
  have hx11 := hA10.ext
  have hs13 := hA10.size
  have hA10x : Al w0 w9 (.cells (flat enI (List.replicate ns.length (0 : Int))).toArray 3) := by rw [flat_repI]; exact hA10
  have hO12 := OB.new (lo := w0.heap.size) (k := 1) (c := ns.length) hA10x (by omega) (by rw [flat_length enI_len]; simp) (by omega)
  have hE14 : Below w0.heap.size w0 w9 := hx11.e hE0 (Nat.le_refl _)
  have hz15 := hE14.le
  have hs16 := hx11.size
  have hl17 := hO12.lo
  have hl18 := hO12.lt
  refine st_q (v := .slice ((some ⟨w0.heap.size, 0, none⟩)) ns.length ns.length) (x_assign rfl) ?_
  refine st_nil ?_
  refine kn6 _ _ ?_
  refine seqK fun Q19 kn20 kr21 ke22 => ?_
  refine seqK fun Q23 kn24 kr25 ke26 => ?_
  refine region ?_
  refine st_q (v := .slice ((some ⟨w0.heap.size, 0, none⟩)) ns.length ns.length) (x_move rfl) ?_
  refine st_q (v := .int .i64 ((ns.length : Nat) : Int)) (x_lenSl rfl Try.underlying38 rfl) ?_
  refine st_q (v := .int .i64 ((0 : Nat) : Int)) (x_move rfl) ?_
  refine st_nil ?_
  refine kn24 _ _ ?_
  refine blockK fun Q27 kn28 kr29 kx30 kb31 => ?_
  refine loopK (α := Nat × (List Int)) (fun x => [(0, .pointer (some ⟨g, 0, none⟩)), (1, .slice a es.length ca), (2, .slice ai ns.length ci), (3, .int .i64 ((t : Nat) : Int)), (9, .slice ((some ⟨w0.heap.size, 0, none⟩)) ns.length ns.length), (23, .int .i64 ((ns.length : Nat) : Int)), (24, .int .i64 ((x.1 : Nat) : Int))]) (fun x w32 => Below w0.heap.size w0 w32 ∧ x.1 ≤ ns.length ∧ x.2.length = ns.length ∧ (∀ j, j < x.1 → el x.2 j = -1) ∧ OB w32.heap w0.heap.size 3 1 w0.heap.size ns.length (flat enI x.2)) (fun x => ns.length - x.1) (0, (List.replicate ns.length (0 : Int))) ⟨rfl, rfl, rfl, rfl, rfl, rfl, rfl, trivial⟩ ?_ ?_
  ·
    refine ⟨hE14, ?_⟩
    try dsimp only
    exact ⟨Nat.zero_le _, by simp, fun j hj => by omega, hO12⟩
  ·
    rintro τ33 ⟨i, F⟩ w34 ⟨hx35, ⟨hi, hFl, hFm, hOf⟩⟩
    try dsimp only at hi hFl hFm hOf
    have hz36 := hx35.le
    intro Q37 kn38 kr39 ke40
    have hl41 := hOf.lo
    have hl42 := hOf.lt
    refine seqK fun Q43 kn44 kr45 ke46 => ?_
    refine region ?_
    refine st_q (v := .bool (decide (i < ns.length))) (x_lssN rfl rfl) ?_
    refine st_nil ?_
    refine kn44 _ _ ?_
    refine seqK fun Q47 kn48 kr49 ke50 => ?_
    refine cnd (p := i < ns.length) rfl (fun h51 => ?_) (fun h51 => ?_)
    ·
      refine skip ?_
      refine kn48 _ _ ?_
      refine seqK fun Q52 kn53 kr54 ke55 => ?_
      refine blockK fun Q56 kn57 kr58 kx59 kb60 => ?_
      refine seqK fun Q61 kn62 kr63 ke64 => ?_
      refine region ?_
      refine st_q (v := .int .i64 ((i : Nat) : Int)) (x_move rfl) ?_
      refine st_q (v := .int .i64 ((i : Nat) : Int)) (x_assign rfl) ?_
      refine st_nil ?_
      refine kn62 _ _ ?_
      refine region ?_
      refine st_q (v := .slice ((some ⟨w0.heap.size, 0, none⟩)) ns.length ns.length) (x_move rfl) ?_
      refine st_q (v := .int .i64 ((i : Nat) : Int)) (x_move rfl) ?_
      refine st_q (v := .pointer (some ⟨w0.heap.size, 0 + i * 1, none⟩)) (x_index T.sl38 rfl rfl (by omega)) ?_
      refine st_s (e_stO (v := .int .i64 (-1)) (u := -1) enI_len T.sz3 rfl rfl rfl hOf (by first | omega | (rw [List.length_set]; omega)) (by rfl) ?_)
      intro w65 _ hP66 hB67
      have hs68 := hP66.size
      have hE69 : Below w0.heap.size w0 w65 := hP66.below hx35 (by omega)
      have hz70 := hE69.le
      refine st_nil ?_
      refine kn57 _ _ ?_
      refine kn53 _ _ ?_
      refine region ?_
      refine st_q (v := .int .i64 (((i + 1) : Nat) : Int)) (x_addN rfl rfl (by omega)) ?_
      refine st_q (v := .int .i64 (((i + 1) : Nat) : Int)) (x_move rfl) ?_
      refine st_nil ?_
      refine kn38 _ ((i + 1), (F.set i (-1))) _ ⟨rfl, rfl, rfl, rfl, rfl, rfl, rfl, trivial⟩ ⟨hE69, ?_⟩ ?_
      ·
        try dsimp only
        refine ⟨by omega, by rw [List.length_set]; exact hFl, fun j hj => ?_, hB67⟩
        by_cases e : i = j
        · subst e; rw [el_set_same (by omega)]
        · rw [el_set_ne e]; exact hFm j (by omega)
      ·
        (try dsimp only); omega
    ·
      refine exit ?_
      refine ke50 _ _ _ ?_
      refine ke40 _ _ _ ?_
      refine kb31 _ _ ?_
      refine kn20 _ _ ?_
      refine seqK fun Q71 kn72 kr73 ke74 => ?_
      refine region ?_
      refine st_q (v := .slice ((some ⟨w0.heap.size, 0, none⟩)) ns.length ns.length) (x_move rfl) ?_
      refine st_q (v := .int .i64 ((t : Nat) : Int)) (x_move rfl) ?_
      refine st_q (v := .pointer (some ⟨w0.heap.size, 0 + t * 1, none⟩)) (x_index T.sl38 rfl rfl (by omega)) ?_
      refine st_s (e_stO (v := .int .i64 ((0 : Nat) : Int)) (u := 0) enI_len T.sz3 rfl rfl rfl hOf (by first | omega | (rw [List.length_set]; omega)) (by rfl) ?_)
      intro w75 _ hP76 hB77
      have hs78 := hP76.size
      have hE79 : Below w0.heap.size w0 w75 := hP76.below hx35 (by omega)
      have hz80 := hE79.le
      refine st_nil ?_
      refine kn72 _ _ ?_
      refine seqK fun Q81 kn82 kr83 ke84 => ?_
      refine region ?_
      refine st_q (v := .int .i64 ((t : Nat) : Int)) (x_move rfl) ?_
      refine st_e (e_buildSlice (cs := [.int .i64 ((t : Nat) : Int)]) (e := 3) (fun _ => by kernel_rfl) ?_)
      intro w85 hA86
      have hx87 := hA86.ext
      have hs88 := hA86.size
      have hB89 : Blk w85.heap w75.heap.size [.int .i64 ((t : Nat) : Int)] 3 := hA86.new
      have hF90 := hB77.ext hx87
      have hE91 : Below w0.heap.size w0 w85 := hx87.e hE79 (Nat.le_refl _)
      have hz92 := hE91.le
      have hs93 := hx87.size
      refine st_q (v := .slice ((some ⟨w75.heap.size, 0, none⟩)) 1 1) (x_assign rfl) ?_
      refine st_nil ?_
      refine kn82 _ _ ?_
      refine seqK fun Q94 kn95 kr96 ke97 => ?_
      refine seqK fun Q98 kn99 kr100 ke101 => ?_
      refine region ?_
      refine st_q (v := .int .i64 ((0 : Nat) : Int)) (x_assign rfl) ?_
      refine st_nil ?_
      refine kn99 _ _ ?_
      refine blockK fun Q102 kn103 kr104 kx105 kb106 => ?_
      refine loopK (α := Nat × Value × (List Nat) × (List Int)) (fun x => [(0, .pointer (some ⟨g, 0, none⟩)), (1, .slice a es.length ca), (2, .slice ai ns.length ci), (9, .slice ((some ⟨w0.heap.size, 0, none⟩)) ns.length ns.length), (11, x.2.1), (12, .int .i64 ((x.1 : Nat) : Int))]) (fun x w107 => Below w0.heap.size w0 w107 ∧ w75.heap.size < w107.heap.size ∧ BI (outN ns es) ns.length t (tF ns es) (tgt ns es) es.length x.1 x.2.2.1 x.2.2.2 (fun _ => False) ∧ x.1 ≤ x.2.2.1.length ∧ Own w107.heap w75.heap.size 3 1 x.2.1 x.2.2.1.length (flat enN x.2.2.1) ∧ OB w107.heap w0.heap.size 3 1 w0.heap.size ns.length (flat enI x.2.2.2)) (fun x => ns.length - x.1) (0, .slice ((some ⟨w75.heap.size, 0, none⟩)) 1 1, [t], (F.set t 0)) ⟨rfl, rfl, rfl, rfl, rfl, rfl, trivial⟩ ?_ ?_
      ·
        refine ⟨hE91, ?_⟩
        try dsimp only
        exact ⟨by omega, BI.start ht hFl (fun u hu => hFm u (by omega)), by simp, Blk.own1 (k := 1) (m := 1) hB89 rfl (by omega), hF90⟩
      ·
        rintro τ108 ⟨i, v, L, F⟩ w109 ⟨hx110, ⟨hlb, hBI, hi, hO, hOf⟩⟩
        try dsimp only at hlb hBI hi hO hOf
        have hz111 := hx110.le
        intro Q112 kn113 kr114 ke115
        obtain ⟨a116, c117, rfl, hm118, hm119⟩ := hO.src.form
        have hl120 := hOf.lo
        have hl121 := hOf.lt
        have hFl := hBI.len
        have hLl := hBI.llen
        refine seqK fun Q122 kn123 kr124 ke125 => ?_
        refine seqK fun Q126 kn127 kr128 ke129 => ?_
        refine region ?_
        refine st_q (v := .int .i64 ((i : Nat) : Int)) (x_move rfl) ?_
        refine st_q (v := .slice a116 L.length c117) (x_move rfl) ?_
        refine st_q (v := .int .i64 ((L.length : Nat) : Int)) (x_lenSl rfl Try.underlying38 rfl) ?_
        refine st_q (v := .bool (decide (i < L.length))) (x_lssN rfl rfl) ?_
        refine st_nil ?_
        refine kn127 _ _ ?_
        refine cnd (p := i < L.length) rfl (fun h130 => ?_) (fun h130 => ?_)
        ·
          refine skip ?_
          refine kn123 _ _ ?_
          refine seqK fun Q131 kn132 kr133 ke134 => ?_
          refine blockK fun Q135 kn136 kr137 kx138 kb139 => ?_
          refine seqK fun Q140 kn141 kr142 ke143 => ?_
          refine region ?_
          refine st_q (v := .slice ai ns.length ci) (x_move rfl) ?_
          refine st_q (v := .slice a116 L.length c117) (x_move rfl) ?_
          refine st_q (v := .int .i64 ((i : Nat) : Int)) (x_move rfl) ?_
          obtain ⟨b144, o145, ha146, hc147⟩ := hO.src.at (by omega)
          refine st_q (v := .pointer (some ⟨b144, o145 + i * 1, none⟩)) (x_index' T.sl38 rfl ha146 rfl (by omega)) ?_
          have hLin : el L i < ns.length := hBI.lt _ (by rw [el_eq (by omega)]; exact List.getElem_mem _)
          refine st_q (v := .int .i64 (((el L i) : Nat) : Int)) (x_load1 T.na3 rfl (hc147.elem enN_len (i := i) (by omega))) ?_
          obtain ⟨b148, o149, ha150, hc151⟩ := hIs.at (by omega)
          refine st_q (v := .pointer (some ⟨b148, o149 + ((el L i)) * 1, none⟩)) (x_index' T.sl63 rfl ha150 rfl (by omega)) ?_
          obtain ⟨q152, c153, e154, hs155⟩ := hI.row ((el L i)) (by rw [grp_len]; omega)
          have hcp156 := hs155.capl
          refine st_q (v := .slice q152 ((el (grp (zipI (tgt ns es) es.length) ns.length) ((el L i))).length) c153) (x_load1 T.na38 rfl (Cells.conv ((hc151.below hx110).elem enV_len (i := (el L i)) (by omega)) e154)) ?_
          refine st_q (v := .int .i64 (((el (grp (zipI (tgt ns es) es.length) ns.length) ((el L i))).length : Nat) : Int)) (x_lenSl rfl Try.underlying38 rfl) ?_
          refine st_q (v := .int .i64 ((0 : Nat) : Int)) (x_move rfl) ?_
          refine st_nil ?_
          refine kn141 _ _ ?_
          refine blockK fun Q157 kn158 kr159 kx160 kb161 => ?_
          refine loopK (α := Nat × Value × (List Nat) × (List Int)) (fun x => [(0, .pointer (some ⟨g, 0, none⟩)), (1, .slice a es.length ca), (2, .slice ai ns.length ci), (9, .slice ((some ⟨w0.heap.size, 0, none⟩)) ns.length ns.length), (11, x.2.1), (12, .int .i64 ((i : Nat) : Int)), (48, .slice q152 ((el (grp (zipI (tgt ns es) es.length) ns.length) ((el L i))).length) c153), (49, .int .i64 (((el (grp (zipI (tgt ns es) es.length) ns.length) ((el L i))).length : Nat) : Int)), (50, .int .i64 ((x.1 : Nat) : Int))]) (fun x w162 => Below w0.heap.size w0 w162 ∧ w75.heap.size < w162.heap.size ∧ x.1 ≤ (el (grp (zipI (tgt ns es) es.length) ns.length) (el L i)).length ∧ i < x.2.2.1.length ∧ el x.2.2.1 i = el L i ∧ BI (outN ns es) ns.length t (tF ns es) (tgt ns es) es.length i x.2.2.1 x.2.2.2 (fun z => z ∈ (el (grp (zipI (tgt ns es) es.length) ns.length) (el L i)).take x.1) ∧ Own w162.heap w75.heap.size 3 1 x.2.1 x.2.2.1.length (flat enN x.2.2.1) ∧ OB w162.heap w0.heap.size 3 1 w0.heap.size ns.length (flat enI x.2.2.2)) (fun x => (el (grp (zipI (tgt ns es) es.length) ns.length) (el L i)).length - x.1) (0, .slice a116 L.length c117, L, F) ⟨rfl, rfl, rfl, rfl, rfl, rfl, rfl, rfl, rfl, trivial⟩ ?_ ?_
          ·
            refine ⟨hx110, ?_⟩
            try dsimp only
            exact ⟨by omega, Nat.zero_le _, by omega, rfl, BI.dn' hBI (fun k hk => by simp at hk), hO, hOf⟩
          ·
            rintro τ163 ⟨j, v2, L2, F2⟩ w164 ⟨hx165, ⟨hlb2, hj, hi2, hLi2, hB2, hO2, hOf2⟩⟩
            try dsimp only at hlb2 hj hi2 hLi2 hB2 hO2 hOf2
            have hz166 := hx165.le
            intro Q167 kn168 kr169 ke170
            obtain ⟨a171, c172, rfl, hm173, hm174⟩ := hO2.src.form
            have hl175 := hOf2.lo
            have hl176 := hOf2.lt
            have hFl2 := hB2.len
            have hLl2 := hB2.llen
            have hrl : (el (grp (zipI (tgt ns es) es.length) ns.length) (el L i)).length ≤ es.length := zip_row_le hLin
            have hLin2 : el L2 i < ns.length := by rw [hLi2]; exact hLin
            have hLim : el L2 i ∈ L2 := by rw [el_eq hi2]; exact List.getElem_mem _
            have hbd := hB2.bnd _ hLim
            have hbn := hB2.neg _ hLin2
            refine seqK fun Q177 kn178 kr179 ke180 => ?_
            refine region ?_
            refine st_q (v := .bool (decide (j < ((el (grp (zipI (tgt ns es) es.length) ns.length) ((el L i))).length)))) (x_lssN rfl rfl) ?_
            refine st_nil ?_
            refine kn178 _ _ ?_
            refine seqK fun Q181 kn182 kr183 ke184 => ?_
            refine cnd (p := j < ((el (grp (zipI (tgt ns es) es.length) ns.length) ((el L i))).length)) rfl (fun h185 => ?_) (fun h185 => ?_)
            ·
              refine skip ?_
              refine kn182 _ _ ?_
              refine seqK fun Q186 kn187 kr188 ke189 => ?_
              refine blockK fun Q190 kn191 kr192 kx193 kb194 => ?_
              refine seqK fun Q195 kn196 kr197 ke198 => ?_
              refine region ?_
              obtain ⟨b199, o200, ha201, hc202⟩ := hs155.at (by omega)
              refine st_q (v := .pointer (some ⟨b199, o200 + j * 1, none⟩)) (x_index' T.sl38 rfl ha201 rfl (by omega)) ?_
              have hek := zip_row_el (f := tgt ns es) (i := es.length) (m := ns.length) (a := el L i) (j := j) hLin (by omega)
              have hek1 := hek.1
              have hfr : ixS ns (el es (el (el (grp (zipI (tgt ns es) es.length) ns.length) (el L i)) j)).1 < ns.length := ixS_lt (hends _ hek1).1
              refine st_q (v := .int .i64 (((el (el (grp (zipI (tgt ns es) es.length) ns.length) ((el L i))) j) : Nat) : Int)) (x_load1 T.na3 rfl ((hc202.below hx165).elem enN_len (i := j) (by omega))) ?_
              refine st_q (v := .int .i64 (((el (el (grp (zipI (tgt ns es) es.length) ns.length) ((el L i))) j) : Nat) : Int)) (x_assign rfl) ?_
              refine st_nil ?_
              refine kn196 _ _ ?_
              refine seqK fun Q203 kn204 kr205 ke206 => ?_
              refine regionD1 [3, 8, 9] [0, 1, 2, 3, 4, 5, 6, 7, 8, 9, 10] (.one 0 (.one 1 (.one 2 (.one 3 (.one 4 (.one 5 (.one 6 (.one 7 (.one 8 (.one 9 (.one 10 .done))))))))))) (by kernel_rfl) (by kernel_rfl) ?_
              intro w207 hx208 hs209
              have hF210 := hO2.ext hx208
              have hF211 := hOf2.ext hx208
              have hE212 : Below w0.heap.size w0 w207 := hx208.e hx165 (Nat.le_refl _)
              have hz213 := hE212.le
              have hs214 := hx208.size
              have hS215 : Ext w207 w207 := Below.refl _ _
              refine d_q (v := .pointer (some ⟨g, 0, none⟩)) rfl rfl (fun _ => x_move rfl) ?_
              refine d_q (v := .pointer (some ⟨g, 0, none⟩)) rfl rfl (fun _ => x_nilCheck rfl) ?_
              refine d_q (v := .pointer (some ⟨g, 1, none⟩)) rfl rfl (fun _ => x_field (o := 0) T.fa65_1 rfl) ?_
              refine d_l (v := .map (some D.bm)) rfl rfl rfl (fun v217 hw216 => x_load1 T.na62 rfl (((hN.blk.keep (hE212.block _ hN.blk.lt)).one 1 rfl).ext hw216)) ?_
              refine d_q (v := .slice a es.length ca) rfl rfl (fun _ => x_move rfl) ?_
              refine d_q (v := .int .i64 (((el (el (grp (zipI (tgt ns es) es.length) ns.length) ((el L i))) j) : Nat) : Int)) rfl rfl (fun _ => x_move rfl) ?_
              obtain ⟨b218, o219, ha220, hc221⟩ := ha.at (by omega)
              refine d_q (v := .pointer (some ⟨b218, o219 + ((el (el (grp (zipI (tgt ns es) es.length) ns.length) ((el L i))) j)) * 3, none⟩)) rfl rfl (fun _ => x_index' T.sl23 rfl ha220 rfl (by omega)) ?_
              refine d_q (v := .pointer (some ⟨b218, o219 + ((el (el (grp (zipI (tgt ns es) es.length) ns.length) ((el L i))) j)) * 3, none⟩)) rfl rfl (fun _ => x_field (o := o219 + ((el (el (grp (zipI (tgt ns es) es.length) ns.length) ((el L i))) j)) * 3) T.fa47_0 rfl) ?_
              refine d_l (v := .string ((el es ((el (el (grp (zipI (tgt ns es) es.length) ns.length) ((el L i))) j))).1)) rfl rfl rfl (fun v223 hw222 => x_load1 T.na9 rfl ((((hc221.below hE212).elem enE_len (i := (el (el (grp (zipI (tgt ns es) es.length) ns.length) ((el L i))) j)) (by omega)).fld 0 rfl).ext hw222)) ?_
              refine d_l (v := .int .i64 (((ixS ns ((el es ((el (el (grp (zipI (tgt ns es) es.length) ns.length) ((el L i))) j))).1)) : Nat) : Int)) rfl rfl rfl (fun v225 hw224 => x_lookupM rfl rfl Try.underlying9 Try.underlying3 Try.underlying62 zeroI (OMap.ext (OMap.belowW hN.map hE212) hw224) (hN.fitn _ (hends _ hek1).1) (hends _ hek1).1) ?_
              refine d_q (v := .int .i64 (((ixS ns ((el es ((el (el (grp (zipI (tgt ns es) es.length) ns.length) ((el L i))) j))).1)) : Nat) : Int)) rfl rfl (fun _ => x_assign rfl) ?_
              refine d_done ?_
              refine kn204 _ _ ?_
              refine seqK fun Q226 kn227 kr228 ke229 => ?_
              refine region ?_
              refine st_q (v := .slice ((some ⟨w0.heap.size, 0, none⟩)) ns.length ns.length) (x_move rfl) ?_
              refine st_q (v := .int .i64 (((ixS ns ((el es ((el (el (grp (zipI (tgt ns es) es.length) ns.length) ((el L i))) j))).1)) : Nat) : Int)) (x_move rfl) ?_
              refine st_q (v := .pointer (some ⟨w0.heap.size, 0 + ((ixS ns ((el es ((el (el (grp (zipI (tgt ns es) es.length) ns.length) ((el L i))) j))).1))) * 1, none⟩)) (x_index T.sl38 rfl rfl (by omega)) ?_
              refine st_q (v := .int .i64 ((el F2 ((ixS ns ((el es ((el (el (grp (zipI (tgt ns es) es.length) ns.length) ((el L i))) j))).1)))))) (x_load1 T.na3 rfl (hF211.cells.elem enI_len (i := (ixS ns ((el es ((el (el (grp (zipI (tgt ns es) es.length) ns.length) ((el L i))) j))).1))) (by omega))) ?_
              refine st_q (v := .bool (decide (((el F2 ((ixS ns ((el es ((el (el (grp (zipI (tgt ns es) es.length) ns.length) ((el L i))) j))).1))))) < 0))) (x_lss rfl rfl) ?_
              refine st_nil ?_
              refine kn227 _ _ ?_
              refine cnd (p := ((el F2 ((ixS ns ((el es ((el (el (grp (zipI (tgt ns es) es.length) ns.length) ((el L i))) j))).1))))) < 0) rfl (fun h230 => ?_) (fun h230 => ?_)
              ·
                refine seqK fun Q231 kn232 kr233 ke234 => ?_
                refine region ?_
                refine st_q (v := .slice ((some ⟨w0.heap.size, 0, none⟩)) ns.length ns.length) (x_move rfl) ?_
                refine st_q (v := .int .i64 (((ixS ns ((el es ((el (el (grp (zipI (tgt ns es) es.length) ns.length) ((el L i))) j))).1)) : Nat) : Int)) (x_move rfl) ?_
                refine st_q (v := .slice ((some ⟨w0.heap.size, 0, none⟩)) ns.length ns.length) (x_move rfl) ?_
                refine st_q (v := .slice a171 L2.length c172) (x_move rfl) ?_
                refine st_q (v := .int .i64 ((i : Nat) : Int)) (x_move rfl) ?_
                obtain ⟨b235, o236, ha237, hc238⟩ := hF210.src.at (by omega)
                refine st_q (v := .pointer (some ⟨b235, o236 + i * 1, none⟩)) (x_index' T.sl38 rfl ha237 rfl (by omega)) ?_
                refine st_q (v := .int .i64 (((el L2 i) : Nat) : Int)) (x_load1 T.na3 rfl (hc238.elem enN_len (i := i) (by omega))) ?_
                refine st_q (v := .pointer (some ⟨w0.heap.size, 0 + ((el L2 i)) * 1, none⟩)) (x_index T.sl38 rfl rfl (by omega)) ?_
                refine st_q (v := .int .i64 ((el F2 ((el L2 i))))) (x_load1 T.na3 rfl (hF211.cells.elem enI_len (i := (el L2 i)) (by omega))) ?_
                refine st_q (v := .int .i64 (((el F2 ((el L2 i))) + 1))) (x_add rfl rfl ⟨by omega, by omega⟩) ?_
                refine st_q (v := .pointer (some ⟨w0.heap.size, 0 + ((ixS ns ((el es ((el (el (grp (zipI (tgt ns es) es.length) ns.length) ((el L i))) j))).1))) * 1, none⟩)) (x_index T.sl38 rfl rfl (by omega)) ?_
                refine st_s (e_stO (v := .int .i64 (((el F2 ((el L2 i))) + 1))) (u := ((el F2 ((el L2 i))) + 1)) enI_len T.sz3 rfl rfl rfl hF211 (by first | omega | (rw [List.length_set]; omega)) (by rfl) ?_)
                intro w239 _ hP240 hB241
                have hs242 := hP240.size
                have hF243 := hF210.pt hP240 (by first | (intro e; have := (hF210.lt e).1; clear e; omega) | (simp [Value.ownBlock]; omega))
                have hE245 : Below w0.heap.size w0 w239 := hP240.below hE212 (by omega)
                have hz246 := hE245.le
                refine st_nil ?_
                refine kn232 _ _ ?_
                refine region ?_
                refine st_q (v := .slice a171 L2.length c172) (x_move rfl) ?_
                refine st_q (v := .int .i64 (((ixS ns ((el es ((el (el (grp (zipI (tgt ns es) es.length) ns.length) ((el L i))) j))).1)) : Nat) : Int)) (x_move rfl) ?_
                refine st_e (e_buildSlice (cs := [.int .i64 (((ixS ns ((el es ((el (el (grp (zipI (tgt ns es) es.length) ns.length) ((el L i))) j))).1)) : Nat) : Int)]) (e := 3) (fun _ => by kernel_rfl) ?_)
                intro w247 hA248
                have hx249 := hA248.ext
                have hs250 := hA248.size
                have hB251 : Blk w247.heap w239.heap.size [.int .i64 (((ixS ns ((el es ((el (el (grp (zipI (tgt ns es) es.length) ns.length) ((el L i))) j))).1)) : Nat) : Int)] 3 := hA248.new
                have hF252 := hF243.ext hx249
                have hF253 := hB241.ext hx249
                have hE254 : Below w0.heap.size w0 w247 := hx249.e hE245 (Nat.le_refl _)
                have hz255 := hE254.le
                have hs256 := hx249.size
                refine st_e (e_appendX T.sl38 rfl rfl hF252 (hB251.src1 (k := 1) (m := 1) rfl (by omega)) (ones (by rfl)) (by omega) (by decide) (by omega) ?_)
                intro v257 w258 hO259 hG260 hN261 hW262
                have hF263 := hF253.grown hG260 (fun e => by first | exact hne e | (have := (hF252.lt e).1; clear e; omega) | (have := (hO.lt e).2; clear e; omega))
                have hE264 : Below w0.heap.size w0 w258 := grown_below hG260 hE254 (Nat.le_refl _) (fun b hb => (by have := (hF252.lt hb).1; clear hb; omega))
                have hz265 := hE264.le
                have hs266 := hG260.size
                have hO267 := Own.snoc (enc := enN) (u := (ixS ns ((el es ((el (el (grp (zipI (tgt ns es) es.length) ns.length) ((el L i))) j))).1))) hO259
                obtain ⟨a268, c269, rfl, hm270, hm271⟩ := hO267.src.form
                refine st_q (v := .slice a268 ((L2.length + 1)) c269) (x_assign rfl) ?_
                refine st_nil ?_
                refine kn191 _ _ ?_
                refine kn187 _ _ ?_
                refine region ?_
                refine st_q (v := .int .i64 (((j + 1) : Nat) : Int)) (x_addN rfl rfl (by omega)) ?_
                refine st_q (v := .int .i64 (((j + 1) : Nat) : Int)) (x_move rfl) ?_
                refine st_nil ?_
                refine kn168 _ ((j + 1), .slice a268 ((L2.length + 1)) c269, (L2 ++ [(ixS ns ((el es ((el (el (grp (zipI (tgt ns es) es.length) ns.length) ((el L i))) j))).1))]), (F2.set ((ixS ns ((el es ((el (el (grp (zipI (tgt ns es) es.length) ns.length) ((el L i))) j))).1))) (((el F2 ((el L2 i))) + 1)))) _ ⟨rfl, rfl, rfl, rfl, rfl, rfl, rfl, rfl, rfl, trivial⟩ ⟨hE264, ?_⟩ ?_
                ·
                  try dsimp only
                  exact ⟨by omega, by omega, by rw [List.length_append]; omega, (el_append_left hi2).trans hLi2, BI.dn' (BI.new hB2 hi2 hek1 (hek.2.trans hLi2.symm) hfr (by assumption) (tgt_mem hek1) (fun k hk => ixS_lt (hends k hk).2)) (fun k hk => take_succ_mem (by omega) hk), by rw [List.length_append]; exact hO267, hF263⟩
                ·
                  (try dsimp only); omega
              ·
                refine skip ?_
                refine kn191 _ _ ?_
                refine kn187 _ _ ?_
                refine region ?_
                refine st_q (v := .int .i64 (((j + 1) : Nat) : Int)) (x_addN rfl rfl (by omega)) ?_
                refine st_q (v := .int .i64 (((j + 1) : Nat) : Int)) (x_move rfl) ?_
                refine st_nil ?_
                refine kn168 _ ((j + 1), .slice a171 L2.length c172, L2, F2) _ ⟨rfl, rfl, rfl, rfl, rfl, rfl, rfl, rfl, rfl, trivial⟩ ⟨hE212, ?_⟩ ?_
                ·
                  try dsimp only
                  exact ⟨by omega, by omega, hi2, hLi2, BI.dn' (BI.old hB2 hi2 hek1 (hek.2.trans hLi2.symm) hfr (by assumption)) (fun k hk => take_succ_mem (by omega) hk), hF210, hF211⟩
                ·
                  (try dsimp only); omega
            ·
              refine exit ?_
              refine ke184 _ _ _ ?_
              refine ke170 _ _ _ ?_
              refine kb161 _ _ ?_
              refine kn136 _ _ ?_
              refine kn132 _ _ ?_
              refine region ?_
              refine st_q (v := .int .i64 ((i : Nat) : Int)) (x_move rfl) ?_
              refine st_q (v := .int .i64 (((i + 1) : Nat) : Int)) (x_addN rfl rfl (by omega)) ?_
              refine st_q (v := .int .i64 (((i + 1) : Nat) : Int)) (x_assign rfl) ?_
              refine st_nil ?_
              refine kn113 _ ((i + 1), .slice a171 L2.length c172, L2, F2) _ ⟨rfl, rfl, rfl, rfl, rfl, rfl, trivial⟩ ⟨hx165, ?_⟩ ?_
              ·
                try dsimp only
                obtain rfl : j = (el (grp (zipI (tgt ns es) es.length) ns.length) (el L i)).length := by omega
                exact ⟨by omega, BI.next hB2 hi2 (fun k hk hto => by rw [List.take_length]; exact (zip_row hLin).2 ⟨hk, hto.trans hLi2⟩), by omega, hO2, hOf2⟩
              ·
                (try dsimp only); omega
        ·
          refine exit ?_
          refine ke125 _ _ _ ?_
          refine ke115 _ _ _ ?_
          refine kb106 _ _ ?_
          refine kn95 _ _ ?_
          refine seqK fun Q272 kn273 kr274 ke275 => ?_
          refine region ?_
          refine st_q (v := .slice ((some ⟨w0.heap.size, 0, none⟩)) ns.length ns.length) (x_move rfl) ?_
          refine st_q (v := .slice ((some ⟨w0.heap.size, 0, none⟩)) ns.length ns.length) (x_assign rfl) ?_
          refine st_nil ?_
          refine kn273 _ _ ?_
          refine ret ?_
          refine leave1 (P := Try.prog) (fn := Try.f46) (t := 8) (v := .slice ((some ⟨w0.heap.size, 0, none⟩)) ns.length ns.length) rfl rfl ?_
          obtain rfl : i = L.length := by omega
          exact ⟨_, F, rfl, hx110, hBI.done outN_edge (outN_lt hends), fun u hu => hBI.range hu, hOf.own (Nat.le_refl _) (by rw [flat_length enI_len, hFl])⟩

end Go.Proofs.Ytknfjgbipfpnjaa
