import Derived.Test.YtknfjgbipfpnjaaGR
namespace Go.Proofs.Ytknfjgbipfpnjaa
open Go.RowKit Go.Eng Go.OrdPure
theorem T.cf35 : CF Try.prog 35 := fun _ _ => by kernel_rfl
theorem T.sl78 : SL Try.prog 78 4 1 1 (.bool false) := sl_mk Try.underlying78 (by kernel_rfl) rfl (by decide)
theorem T.sz4 : SZ Try.prog 4 1 := fun _ => by kernel_rfl

theorem Cells.conv {h : Array Obj} {b o : Nat} {v v' : Value} (hc : Cells h b o [v]) (e : v = v') : Cells h b o [v'] := e ▸ hc
theorem row_lt {ns : List ByteArray} {es : List Edge} {a k : Nat} (h : k < (rowS ns es a).length) : el (rowS ns es a) k < es.length ∧ ixS ns (el es (el (rowS ns es a) k)).1 = a := by
  rw [el_eq h]; exact mem_rowU.1 (List.getElem_mem _)
theorem row_le (ns : List ByteArray) (es : List Edge) (a : Nat) : (rowS ns es a).length ≤ es.length := rowU_len _ _ _ _
theorem map_take_succ {α β : Type} [Inhabited α] {f : α → β} {xs : List α} {k : Nat} (h : k < xs.length) : (xs.take (k + 1)).map f = (xs.take k).map f ++ [f (el xs k)] := by rw [take_succ_el h, List.map_append]; rfl
theorem RInv.olen {ns : List ByteArray} {es : List Edge} {fs : List ByteArray} {i : Nat} {L : List Nat} {O : List ByteArray} {Sn : List Bool} (h : RInv ns es fs i L O Sn) (_hN : True) : O.length ≤ ns.length := nodup_le h.nd fun s hs => by obtain ⟨v, h1, _, rfl⟩ := (h.out s).1 hs; exact el_memS h1
set_option maxHeartbeats 4000000 in
theorem reach26 (es : List Edge) (fs : List ByteArray) (va vb : Value) (w0 : World) (ha : Src w0.heap va es.length 3 (flat enE es)) (hb : Src w0.heap vb fs.length 1 (flat enS fs)) (hfx : FitS fs) (hfe : FitE es) (hn : fs.length + 2 * es.length ≤ 2097152) : Calls Try.prog 26 #[va, vb] w0 fun e w' => ∃ v R, e = .returned v ∧ Ext w0 w' ∧ IsR es fs R ∧ Own w'.heap w0.heap.size 9 1 v R.length (flat enS R) := by
  have hE0 : Below w0.heap.size w0 w0 := Below.refl _ _
  have hz0 := hE0.le
  have hNs : True := trivial
  obtain ⟨a, ca, rfl, hca, hca1⟩ := ha.form
  obtain ⟨b, cb, rfl, hcb, hcb1⟩ := hb.form
  refine enter Try.func26 rfl 97 Try.ntmps26 rfl ?_
  refine seqK fun Q1 kn2 kr3 ke4 => ?_
  refine region ?_
  refine st_q (v := .slice none 0 0) (x_assign rfl) ?_
  refine st_nil ?_
  refine kn2 _ _ ?_
  refine seqK fun Q5 kn6 kr7 ke8 => ?_
  refine region ?_
  refine st_q (v := .slice b fs.length cb) (x_move rfl) ?_
  refine st_q (v := .slice a es.length ca) (x_move rfl) ?_
  refine st_c (t_call [.slice b fs.length cb, .slice a es.length ca] T.cf35 rfl rfl) (laid35 fs es _ _ _ ((hb.below hE0)) (ha.below hE0) hfx hfe (by first | omega | (simp; omega))) ?_
  rintro _ w9 ⟨g, D, rfl, hx10, hDlo, hN⟩
  refine ⟨_, rfl, ?_⟩
  have hsz1 := hx10.size
  have hE11 : Below w9.heap.size w9 w9 := Below.refl _ _
  have hz12 := hE11.le
  have ha' := ha.ext hx10
  have hb' := hb.ext hx10
  obtain ⟨ns, hns⟩ : ∃ n, n = nodesL fs es := ⟨_, rfl⟩
  rw [← hns] at hN
  have hfit := hN.fit
  have hvlen := hN.vlen
  have hends := hN.ends
  refine st_q (v := .pointer (some ⟨g, 0, none⟩)) (x_assign rfl) ?_
  refine st_nil ?_
  refine kn6 _ _ ?_
  refine seqK fun Q13 kn14 kr15 ke16 => ?_
  refine region ?_
  refine st_q (v := .pointer (some ⟨g, 0, none⟩)) (x_move rfl) ?_
  refine st_q (v := .pointer (some ⟨g, 0, none⟩)) (x_nilCheck rfl) ?_
  refine st_q (v := .pointer (some ⟨g, 0, none⟩)) (x_field (o := 0) T.fa65_0 rfl) ?_
  refine st_q (v := .slice D.na ns.length D.nc) (x_load1 T.na22 rfl ((hN.blk.keep (hE11.block _ hN.blk.lt)).one 0 rfl)) ?_
  refine st_q (v := .int .i64 ((ns.length : Nat) : Int)) (x_lenSl rfl Try.underlying22 rfl) ?_
  refine st_e (e_makeSlice T.sl78 rfl rfl (by omega) (by omega) ?_)
  intro w17 hA18
  have hx19 := hA18.ext
  have hs21 := hA18.size
  have hA18x : Al w9 w17 (.cells (flat enB (List.replicate ns.length (false : Bool))).toArray 4) := by rw [flat_repB]; exact hA18
  have hO20 := OB.new (lo := w9.heap.size) (k := 1) (c := ns.length) hA18x (by omega) (by rw [flat_length enB_len]; simp) (by omega)
  have hE22 : Below w9.heap.size w9 w17 := hx19.e hE11 (Nat.le_refl _)
  have hz23 := hE22.le
  have hs24 := hx19.size
  have hl25 := hO20.lo
  have hl26 := hO20.lt
  refine st_q (v := .slice ((some ⟨w9.heap.size, 0, none⟩)) ns.length ns.length) (x_assign rfl) ?_
  refine st_nil ?_
  refine kn14 _ _ ?_
  refine seqK fun Q27 kn28 kr29 ke30 => ?_
  refine region ?_
  refine st_e (e_buildSlice (cs := []) (e := 3) (fun _ => by kernel_rfl) ?_)
  intro w31 hA32
  have hx33 := hA32.ext
  have hs34 := hA32.size
  have hB35 : Blk w31.heap w17.heap.size [] 3 := hA32.new
  have hF36 := hO20.ext hx33
  have hE37 : Below w9.heap.size w9 w31 := hx33.e hE22 (Nat.le_refl _)
  have hz38 := hE37.le
  have hs39 := hx33.size
  refine st_q (v := .slice ((some ⟨w17.heap.size, 0, none⟩)) 0 0) (x_assign rfl) ?_
  refine st_nil ?_
  refine kn28 _ _ ?_
  refine seqK fun Q40 kn41 kr42 ke43 => ?_
  refine seqK fun Q44 kn45 kr46 ke47 => ?_
  refine region ?_
  refine st_q (v := .slice b fs.length cb) (x_move rfl) ?_
  refine st_q (v := .int .i64 ((fs.length : Nat) : Int)) (x_lenSl rfl Try.underlying22 rfl) ?_
  refine st_q (v := .int .i64 ((0 : Nat) : Int)) (x_move rfl) ?_
  refine st_nil ?_
  refine kn45 _ _ ?_
  refine blockK fun Q48 kn49 kr50 kx51 kb52 => ?_
  refine loopK (α := Nat × Value) (fun x => [(0, .slice a es.length ca), (5, .pointer (some ⟨g, 0, none⟩)), (6, .slice ((some ⟨w9.heap.size, 0, none⟩)) ns.length ns.length), (7, x.2), (25, .slice b fs.length cb), (26, .int .i64 ((fs.length : Nat) : Int)), (27, .int .i64 ((x.1 : Nat) : Int))]) (fun x w53 => Below w9.heap.size w9 w53 ∧ x.1 ≤ fs.length ∧ Own w53.heap w9.heap.size 3 1 x.2 x.1 (flat enN ((fs.take x.1).map (ixS ns))) ∧ OB w53.heap w9.heap.size 4 1 w9.heap.size ns.length (flat enB (List.replicate ns.length false))) (fun x => fs.length - x.1) (0, .slice ((some ⟨w17.heap.size, 0, none⟩)) 0 0) ⟨rfl, rfl, rfl, rfl, rfl, rfl, rfl, trivial⟩ ?_ ?_
  ·
    refine ⟨hE37, ?_⟩
    try dsimp only
    exact ⟨Nat.zero_le _, hB35.own0 (k := 1) (by omega), hF36⟩
  ·
    rintro τ54 ⟨i, v⟩ w55 ⟨hx56, ⟨hi, hO, hS⟩⟩
    try dsimp only at hi hO hS
    have hz57 := hx56.le
    intro Q58 kn59 kr60 ke61
    obtain ⟨a62, c63, rfl, hm64, hm65⟩ := hO.src.form
    have hl66 := hS.lo
    have hl67 := hS.lt
    refine seqK fun Q68 kn69 kr70 ke71 => ?_
    refine region ?_
    refine st_q (v := .bool (decide (i < fs.length))) (x_lssN rfl rfl) ?_
    refine st_nil ?_
    refine kn69 _ _ ?_
    refine seqK fun Q72 kn73 kr74 ke75 => ?_
    refine cnd (p := i < fs.length) rfl (fun h76 => ?_) (fun h76 => ?_)
    ·
      refine skip ?_
      refine kn73 _ _ ?_
      refine seqK fun Q77 kn78 kr79 ke80 => ?_
      refine blockK fun Q81 kn82 kr83 kx84 kb85 => ?_
      refine seqK fun Q86 kn87 kr88 ke89 => ?_
      refine region ?_
      obtain ⟨b90, o91, ha92, hc93⟩ := hb'.at (by omega)
      refine st_q (v := .pointer (some ⟨b90, o91 + i * 1, none⟩)) (x_index' T.sl22 rfl ha92 rfl (by omega)) ?_
      refine st_q (v := .string (el fs i)) (x_load1 T.na9 rfl ((hc93.below hx56).elem enS_len (i := i) (by omega))) ?_
      refine st_q (v := .string (el fs i)) (x_assign rfl) ?_
      refine st_nil ?_
      refine kn87 _ _ ?_
      refine region ?_
      refine st_q (v := .slice a62 i c63) (x_move rfl) ?_
      refine st_q (v := .pointer (some ⟨g, 0, none⟩)) (x_move rfl) ?_
      refine st_q (v := .pointer (some ⟨g, 0, none⟩)) (x_nilCheck rfl) ?_
      refine st_q (v := .pointer (some ⟨g, 1, none⟩)) (x_field (o := 0) T.fa65_1 rfl) ?_
      refine st_q (v := .map (some D.bm)) (x_load1 T.na62 rfl ((hN.blk.keep (hx56.block _ hN.blk.lt)).one 1 rfl)) ?_
      refine st_q (v := .string (el fs i)) (x_move rfl) ?_
      refine st_q (v := .int .i64 (((ixS ns (el fs i)) : Nat) : Int)) (x_lookupM rfl rfl Try.underlying9 Try.underlying3 Try.underlying62 zeroI (OMap.belowW hN.map hx56) (hN.fitn _ (hns.symm ▸ nodesL_mem.2 (.inl (el_memS (by omega))))) (hns.symm ▸ nodesL_mem.2 (.inl (el_memS (by omega))))) ?_
      refine st_e (e_buildSlice (cs := [.int .i64 (((ixS ns (el fs i)) : Nat) : Int)]) (e := 3) (fun _ => by kernel_rfl) ?_)
      intro w94 hA95
      have hx96 := hA95.ext
      have hs97 := hA95.size
      have hB98 : Blk w94.heap w55.heap.size [.int .i64 (((ixS ns (el fs i)) : Nat) : Int)] 3 := hA95.new
      have hF99 := hO.ext hx96
      have hF100 := hS.ext hx96
      have hE101 : Below w9.heap.size w9 w94 := hx96.e hx56 (Nat.le_refl _)
      have hz102 := hE101.le
      have hs103 := hx96.size
      refine st_e (e_appendX T.sl38 rfl rfl hF99 (hB98.src1 (k := 1) (m := 1) rfl (by omega)) (ones (by rfl)) (by omega) (by decide) (by omega) ?_)
      intro v104 w105 hO106 hG107 hN108 hW109
      have hF110 := hF100.gk (hG107) (hF99.rowk) (by decide)
      have hE111 : Below w9.heap.size w9 w105 := grown_below hG107 hE101 (Nat.le_refl _) (fun b hb => (by have := (hF99.lt hb).1; clear hb; omega))
      have hz112 := hE111.le
      have hs113 := hG107.size
      have hO114 := Own.snoc (enc := enN) (u := (ixS ns (el fs i))) hO106
      obtain ⟨a115, c116, rfl, hm117, hm118⟩ := hO114.src.form
      refine st_q (v := .slice a115 ((i + 1)) c116) (x_assign rfl) ?_
      refine st_nil ?_
      refine kn82 _ _ ?_
      refine kn78 _ _ ?_
      refine region ?_
      refine st_q (v := .int .i64 (((i + 1) : Nat) : Int)) (x_addN rfl rfl (by omega)) ?_
      refine st_q (v := .int .i64 (((i + 1) : Nat) : Int)) (x_move rfl) ?_
      refine st_nil ?_
      refine kn59 _ ((i + 1), .slice a115 ((i + 1)) c116) _ ⟨rfl, rfl, rfl, rfl, rfl, rfl, rfl, trivial⟩ ⟨hE111, ?_⟩ ?_
      ·
        try dsimp only
        exact ⟨by omega, by rw [map_take_succ (by omega)]; exact hO114, hF110⟩
      ·
        (try dsimp only); omega
    ·
      refine exit ?_
      refine ke75 _ _ _ ?_
      refine ke61 _ _ _ ?_
      refine kb52 _ _ ?_
      refine kn41 _ _ ?_
      refine seqK fun Q119 kn120 kr121 ke122 => ?_
      refine region ?_
      refine st_e (e_buildSlice (cs := []) (e := 9) (fun _ => by kernel_rfl) ?_)
      intro w123 hA124
      have hx125 := hA124.ext
      have hs126 := hA124.size
      have hB127 : Blk w123.heap w55.heap.size [] 9 := hA124.new
      have hF128 := hO.ext hx125
      have hF129 := hS.ext hx125
      have hE130 : Below w9.heap.size w9 w123 := hx125.e hx56 (Nat.le_refl _)
      have hz131 := hE130.le
      have hs132 := hx125.size
      refine st_q (v := .slice ((some ⟨w55.heap.size, 0, none⟩)) 0 0) (x_assign rfl) ?_
      refine st_nil ?_
      refine kn120 _ _ ?_
      refine seqK fun Q133 kn134 kr135 ke136 => ?_
      refine seqK fun Q137 kn138 kr139 ke140 => ?_
      refine region ?_
      refine st_q (v := .int .i64 ((0 : Nat) : Int)) (x_assign rfl) ?_
      refine st_nil ?_
      refine kn138 _ _ ?_
      refine blockK fun Q141 kn142 kr143 kx144 kb145 => ?_
      refine loopK (α := Nat × Value × Value × (List Nat) × (List ByteArray) × (List Bool)) (fun x => [(0, .slice a es.length ca), (5, .pointer (some ⟨g, 0, none⟩)), (6, .slice ((some ⟨w9.heap.size, 0, none⟩)) ns.length ns.length), (7, x.2.1), (10, x.2.2.1), (11, .int .i64 ((x.1 : Nat) : Int))]) (fun x w146 => Below w9.heap.size w9 w146 ∧ RInv ns es fs x.1 x.2.2.2.1 x.2.2.2.2.1 x.2.2.2.2.2 ∧ Own w146.heap w9.heap.size 3 1 x.2.1 x.2.2.2.1.length (flat enN x.2.2.2.1) ∧ Own w146.heap w9.heap.size 9 1 x.2.2.1 x.2.2.2.2.1.length (flat enS x.2.2.2.2.1) ∧ OB w146.heap w9.heap.size 4 1 w9.heap.size ns.length (flat enB x.2.2.2.2.2)) (fun x => lft x.2.2.2.2.2 * (es.length + 1) + (x.2.2.2.1.length - x.1)) (0, .slice a62 i c63, .slice ((some ⟨w55.heap.size, 0, none⟩)) 0 0, (fs.map (ixS ns)), [], (List.replicate ns.length false)) ⟨rfl, rfl, rfl, rfl, rfl, rfl, trivial⟩ ?_ ?_
      ·
        refine ⟨hE130, ?_⟩
        try dsimp only
        obtain rfl : i = fs.length := by omega
        have hO2 := hF128
        rw [List.take_length] at hO2
        exact ⟨RInv.start (fun s => by rw [hns]), by rw [List.length_map]; exact hO2, hB127.own0 (k := 1) (by omega), hF129⟩
      ·
        rintro τ147 ⟨i, v, u, L, O, Sn⟩ w148 ⟨hx149, ⟨hR, hO, hU, hS⟩⟩
        try dsimp only at hR hO hU hS
        have hz150 := hx149.le
        intro Q151 kn152 kr153 ke154
        have hsl := hR.slen
        have hile := hR.le
        have hLb : L.length ≤ 4398048608256 := by have h1 := hR.len_le; have h2 : es.length * ns.length ≤ 1048576 * 4194304 := Nat.mul_le_mul (by omega) (by omega); omega
        have hOb : O.length ≤ 4194304 := by have := hR.olen hNs; omega
        obtain ⟨a155, c156, rfl, hm157, hm158⟩ := hO.src.form
        obtain ⟨a159, c160, rfl, hm161, hm162⟩ := hU.src.form
        have hl163 := hS.lo
        have hl164 := hS.lt
        refine seqK fun Q165 kn166 kr167 ke168 => ?_
        refine seqK fun Q169 kn170 kr171 ke172 => ?_
        refine region ?_
        refine st_q (v := .int .i64 ((i : Nat) : Int)) (x_move rfl) ?_
        refine st_q (v := .slice a155 L.length c156) (x_move rfl) ?_
        refine st_q (v := .int .i64 ((L.length : Nat) : Int)) (x_lenSl rfl Try.underlying38 rfl) ?_
        refine st_q (v := .bool (decide (i < L.length))) (x_lssN rfl rfl) ?_
        refine st_nil ?_
        refine kn170 _ _ ?_
        refine cnd (p := i < L.length) rfl (fun h173 => ?_) (fun h173 => ?_)
        ·
          refine skip ?_
          refine kn166 _ _ ?_
          refine seqK fun Q174 kn175 kr176 ke177 => ?_
          refine blockK fun Q178 kn179 kr180 kx181 kb182 => ?_
          refine seqK fun Q183 kn184 kr185 ke186 => ?_
          refine region ?_
          refine st_q (v := .slice a155 L.length c156) (x_move rfl) ?_
          refine st_q (v := .int .i64 ((i : Nat) : Int)) (x_move rfl) ?_
          obtain ⟨b187, o188, ha189, hc190⟩ := hO.src.at (by omega)
          refine st_q (v := .pointer (some ⟨b187, o188 + i * 1, none⟩)) (x_index' T.sl38 rfl ha189 rfl (by omega)) ?_
          have hLi := hR.at_lt (by omega)
          refine st_q (v := .int .i64 (((el L i) : Nat) : Int)) (x_load1 T.na3 rfl (hc190.elem enN_len (i := i) (by omega))) ?_
          refine st_q (v := .int .i64 (((el L i) : Nat) : Int)) (x_assign rfl) ?_
          refine st_nil ?_
          refine kn184 _ _ ?_
          refine seqK fun Q191 kn192 kr193 ke194 => ?_
          refine seqK fun Q195 kn196 kr197 ke198 => ?_
          refine region ?_
          refine st_q (v := .slice ((some ⟨w9.heap.size, 0, none⟩)) ns.length ns.length) (x_move rfl) ?_
          refine st_q (v := .int .i64 (((el L i) : Nat) : Int)) (x_move rfl) ?_
          refine st_q (v := .pointer (some ⟨w9.heap.size, 0 + ((el L i)) * 1, none⟩)) (x_index T.sl78 rfl rfl (by omega)) ?_
          refine st_q (v := .bool ((el Sn ((el L i))))) (x_load1 T.na4 rfl (hS.cells.elem enB_len (i := (el L i)) (by omega))) ?_
          refine st_nil ?_
          refine kn196 _ _ ?_
          refine cndB (b := (el Sn ((el L i)))) rfl (fun h199 => ?_) (fun h199 => ?_)
          ·
            refine exit ?_
            refine ke194 _ _ _ ?_
            refine kb182 _ _ ?_
            refine kn175 _ _ ?_
            refine region ?_
            refine st_q (v := .int .i64 ((i : Nat) : Int)) (x_move rfl) ?_
            refine st_q (v := .int .i64 (((i + 1) : Nat) : Int)) (x_addN rfl rfl (by omega)) ?_
            refine st_q (v := .int .i64 (((i + 1) : Nat) : Int)) (x_assign rfl) ?_
            refine st_nil ?_
            refine kn152 _ ((i + 1), .slice a155 L.length c156, .slice a159 O.length c160, L, O, Sn) _ ⟨rfl, rfl, rfl, rfl, rfl, rfl, trivial⟩ ⟨hx149, ?_⟩ ?_
            ·
              try dsimp only
              exact ⟨hR.skip (by omega) (by assumption), hO, hU, hS⟩
            ·
              (try dsimp only); omega
          ·
            refine skip ?_
            refine kn192 _ _ ?_
            refine seqK fun Q200 kn201 kr202 ke203 => ?_
            refine region ?_
            refine st_q (v := .slice ((some ⟨w9.heap.size, 0, none⟩)) ns.length ns.length) (x_move rfl) ?_
            refine st_q (v := .int .i64 (((el L i) : Nat) : Int)) (x_move rfl) ?_
            refine st_q (v := .pointer (some ⟨w9.heap.size, 0 + ((el L i)) * 1, none⟩)) (x_index T.sl78 rfl rfl (by omega)) ?_
            refine st_s (e_stO (v := .bool true) (u := true) enB_len T.sz4 rfl rfl rfl hS (by first | omega | (rw [List.length_set]; omega)) (by rfl) ?_)
            intro w204 _ hP205 hB206
            have hs207 := hP205.size
            have hF208 := hO.gk (hP205.grownBy) (hS.rowk) (by decide)
            have hF209 := hU.gk (hP205.grownBy) (hS.rowk) (by decide)
            have hE211 : Below w9.heap.size w9 w204 := hP205.below hx149 (by omega)
            have hz212 := hE211.le
            refine st_nil ?_
            refine kn201 _ _ ?_
            refine seqK fun Q213 kn214 kr215 ke216 => ?_
            refine region ?_
            refine st_q (v := .slice a159 O.length c160) (x_move rfl) ?_
            refine st_q (v := .pointer (some ⟨g, 0, none⟩)) (x_move rfl) ?_
            refine st_q (v := .pointer (some ⟨g, 0, none⟩)) (x_nilCheck rfl) ?_
            refine st_q (v := .pointer (some ⟨g, 0, none⟩)) (x_field (o := 0) T.fa65_0 rfl) ?_
            refine st_q (v := .slice D.na ns.length D.nc) (x_load1 T.na22 rfl ((hN.blk.keep (hE211.block _ hN.blk.lt)).one 0 rfl)) ?_
            refine st_q (v := .int .i64 (((el L i) : Nat) : Int)) (x_move rfl) ?_
            obtain ⟨b217, o218, ha219, hc220⟩ := hN.nodes.src.at (by omega)
            refine st_q (v := .pointer (some ⟨b217, o218 + ((el L i)) * 1, none⟩)) (x_index' T.sl22 rfl ha219 rfl (by omega)) ?_
            refine st_q (v := .string (el ns ((el L i)))) (x_load1 T.na9 rfl ((hc220.below hE211).elem enS_len (i := (el L i)) (by omega))) ?_
            refine st_e (e_buildSlice (cs := [.string (el ns ((el L i)))]) (e := 9) (fun _ => by kernel_rfl) ?_)
            intro w221 hA222
            have hx223 := hA222.ext
            have hs224 := hA222.size
            have hB225 : Blk w221.heap w204.heap.size [.string (el ns ((el L i)))] 9 := hA222.new
            have hF226 := hF208.ext hx223
            have hF227 := hF209.ext hx223
            have hF228 := hB206.ext hx223
            have hE229 : Below w9.heap.size w9 w221 := hx223.e hE211 (Nat.le_refl _)
            have hz230 := hE229.le
            have hs231 := hx223.size
            refine st_e (e_appendX T.sl22 rfl rfl hF227 (hB225.src1 (k := 1) (m := 1) rfl (by omega)) (ones (by rfl)) (by omega) (by decide) (by omega) ?_)
            intro v232 w233 hO234 hG235 hN236 hW237
            have hF238 := hF226.gk (hG235) (hF227.rowk) (by decide)
            have hF239 := hF228.gk (hG235) (hF227.rowk) (by decide)
            have hE240 : Below w9.heap.size w9 w233 := grown_below hG235 hE229 (Nat.le_refl _) (fun b hb => (by have := (hF227.lt hb).1; clear hb; omega))
            have hz241 := hE240.le
            have hs242 := hG235.size
            have hO243 := Own.snoc (enc := enS) (u := el ns ((el L i))) hO234
            obtain ⟨a244, c245, rfl, hm246, hm247⟩ := hO243.src.form
            refine st_q (v := .slice a244 ((O.length + 1)) c245) (x_assign rfl) ?_
            refine st_nil ?_
            refine kn214 _ _ ?_
            refine seqK fun Q248 kn249 kr250 ke251 => ?_
            refine region ?_
            refine st_q (v := .pointer (some ⟨g, 0, none⟩)) (x_move rfl) ?_
            refine st_q (v := .pointer (some ⟨g, 0, none⟩)) (x_nilCheck rfl) ?_
            refine st_q (v := .pointer (some ⟨g, 2, none⟩)) (x_field (o := 0) T.fa65_2 rfl) ?_
            refine st_q (v := .slice ((some ⟨D.bo, 0, none⟩)) ns.length ns.length) (x_load1 T.na63 rfl ((hN.blk.keep (hE240.block _ hN.blk.lt)).one 2 rfl)) ?_
            refine st_q (v := .int .i64 (((el L i) : Nat) : Int)) (x_move rfl) ?_
            refine st_q (v := .pointer (some ⟨D.bo, 0 + ((el L i)) * 1, none⟩)) (x_index T.sl63 rfl rfl (by omega)) ?_
            obtain ⟨q252, c253, e254, hs255⟩ := hN.rows ((el L i)) (by omega)
            have hcp256 := hs255.capl
            refine st_q (v := .slice q252 ((rowS ns es ((el L i))).length) c253) (x_load1 T.na38 rfl (Cells.conv (((hN.out).below hE240).elem enV_len (i := (el L i)) (by have := hN.vlen; omega)) e254)) ?_
            refine st_q (v := .int .i64 (((rowS ns es ((el L i))).length : Nat) : Int)) (x_lenSl rfl Try.underlying38 rfl) ?_
            refine st_q (v := .int .i64 ((0 : Nat) : Int)) (x_move rfl) ?_
            refine st_nil ?_
            refine kn249 _ _ ?_
            refine blockK fun Q257 kn258 kr259 kx260 kb261 => ?_
            refine loopK (α := Nat × Value) (fun x => [(0, .slice a es.length ca), (5, .pointer (some ⟨g, 0, none⟩)), (6, .slice ((some ⟨w9.heap.size, 0, none⟩)) ns.length ns.length), (7, x.2), (10, .slice a244 ((O.length + 1)) c245), (11, .int .i64 ((i : Nat) : Int)), (75, .slice q252 ((rowS ns es ((el L i))).length) c253), (76, .int .i64 (((rowS ns es ((el L i))).length : Nat) : Int)), (77, .int .i64 ((x.1 : Nat) : Int))]) (fun x w262 => Below w9.heap.size w9 w262 ∧ x.1 ≤ (rowS ns es (el L i)).length ∧ Own w262.heap w9.heap.size 3 1 x.2 (L.length + x.1) (flat enN (L ++ ((rowS ns es (el L i)).take x.1).map (tgt ns es))) ∧ Own w262.heap w9.heap.size 9 1 (.slice a244 ((O.length + 1)) c245) (O.length + 1) (flat enS (O ++ [el ns ((el L i))])) ∧ OB w262.heap w9.heap.size 4 1 w9.heap.size ns.length (flat enB (Sn.set ((el L i)) true))) (fun x => (rowS ns es (el L i)).length - x.1) (0, .slice a155 L.length c156) ⟨rfl, rfl, rfl, rfl, rfl, rfl, rfl, rfl, rfl, trivial⟩ ?_ ?_
            ·
              refine ⟨hE240, ?_⟩
              try dsimp only
              exact ⟨Nat.zero_le _, by rw [List.take_zero, List.map_nil, List.append_nil]; exact hF238, hO243, hF239⟩
            ·
              rintro τ263 ⟨k, v2⟩ w264 ⟨hx265, ⟨hk, hO2, hU2, hS2⟩⟩
              try dsimp only at hk hO2 hU2 hS2
              have hz266 := hx265.le
              intro Q267 kn268 kr269 ke270
              obtain ⟨a271, c272, rfl, hm273, hm274⟩ := hO2.src.form
              have hl275 := hS2.lo
              have hl276 := hS2.lt
              have hrl := row_le ns es (el L i)
              refine seqK fun Q277 kn278 kr279 ke280 => ?_
              refine region ?_
              refine st_q (v := .bool (decide (k < ((rowS ns es ((el L i))).length)))) (x_lssN rfl rfl) ?_
              refine st_nil ?_
              refine kn278 _ _ ?_
              refine seqK fun Q281 kn282 kr283 ke284 => ?_
              refine cnd (p := k < ((rowS ns es ((el L i))).length)) rfl (fun h285 => ?_) (fun h285 => ?_)
              ·
                refine skip ?_
                refine kn282 _ _ ?_
                refine seqK fun Q286 kn287 kr288 ke289 => ?_
                refine blockK fun Q290 kn291 kr292 kx293 kb294 => ?_
                refine seqK fun Q295 kn296 kr297 ke298 => ?_
                refine region ?_
                obtain ⟨b299, o300, ha301, hc302⟩ := hs255.at (by omega)
                refine st_q (v := .pointer (some ⟨b299, o300 + k * 1, none⟩)) (x_index' T.sl38 rfl ha301 rfl (by omega)) ?_
                have hek := row_lt (ns := ns) (es := es) (a := (el L i)) (k := k) (by omega)
                refine st_q (v := .int .i64 (((el (rowS ns es ((el L i))) k) : Nat) : Int)) (x_load1 T.na3 rfl ((hc302.below hx265).elem enN_len (i := k) (by omega))) ?_
                refine st_q (v := .int .i64 (((el (rowS ns es ((el L i))) k) : Nat) : Int)) (x_assign rfl) ?_
                refine st_nil ?_
                refine kn296 _ _ ?_
                refine regionD1 [4, 9, 10] [0, 1, 2, 3, 4, 5, 6, 7, 8, 9, 10, 13] (.one 0 (.one 1 (.one 2 (.one 3 (.one 4 (.one 5 (.one 6 (.one 7 (.one 8 (.one 9 (.one 10 (.one 11 (.one 12 (.one 13 .done)))))))))))))) (by kernel_rfl) (by kernel_rfl) ?_
                intro w303 hx304 hs305
                have hF306 := hU2.ext hx304
                have hF307 := hO2.ext hx304
                have hF308 := hS2.ext hx304
                have hE309 : Below w9.heap.size w9 w303 := hx304.e hx265 (Nat.le_refl _)
                have hz310 := hE309.le
                have hs311 := hx304.size
                have hS312 : Ext w303 w303 := Below.refl _ _
                refine d_q (v := .slice a271 ((L.length + k)) c272) rfl rfl (fun _ => x_move rfl) ?_
                refine d_q (v := .pointer (some ⟨g, 0, none⟩)) rfl rfl (fun _ => x_move rfl) ?_
                refine d_q (v := .pointer (some ⟨g, 0, none⟩)) rfl rfl (fun _ => x_nilCheck rfl) ?_
                refine d_q (v := .pointer (some ⟨g, 1, none⟩)) rfl rfl (fun _ => x_field (o := 0) T.fa65_1 rfl) ?_
                refine d_l (v := .map (some D.bm)) rfl rfl rfl (fun v314 hw313 => x_load1 T.na62 rfl (((hN.blk.keep (hE309.block _ hN.blk.lt)).one 1 rfl).ext hw313)) ?_
                refine d_q (v := .slice a es.length ca) rfl rfl (fun _ => x_move rfl) ?_
                refine d_q (v := .int .i64 (((el (rowS ns es ((el L i))) k) : Nat) : Int)) rfl rfl (fun _ => x_move rfl) ?_
                obtain ⟨b315, o316, ha317, hc318⟩ := ha'.at (by omega)
                refine d_q (v := .pointer (some ⟨b315, o316 + ((el (rowS ns es ((el L i))) k)) * 3, none⟩)) rfl rfl (fun _ => x_index' T.sl23 rfl ha317 rfl (by omega)) ?_
                refine d_q (v := .pointer (some ⟨b315, o316 + ((el (rowS ns es ((el L i))) k)) * 3 + 1, none⟩)) rfl rfl (fun _ => x_field (o := o316 + ((el (rowS ns es ((el L i))) k)) * 3) T.fa47_1 rfl) ?_
                refine d_l (v := .string ((el es ((el (rowS ns es ((el L i))) k))).2.1)) rfl rfl rfl (fun v320 hw319 => x_load1 T.na9 rfl ((((hc318.below hE309).elem enE_len (i := (el (rowS ns es ((el L i))) k)) (by omega)).fld 1 rfl).ext hw319)) ?_
                refine d_l (v := .int .i64 (((ixS ns ((el es ((el (rowS ns es ((el L i))) k))).2.1)) : Nat) : Int)) rfl rfl rfl (fun v322 hw321 => x_lookupM rfl rfl Try.underlying9 Try.underlying3 Try.underlying62 zeroI (OMap.ext (OMap.belowW hN.map hE309) hw321) (hN.fitn _ (hends _ hek.1).2) (hends _ hek.1).2) ?_
                refine d_e (by decide) (d_e' rfl rfl (e_buildSlice (cs := [.int .i64 (((ixS ns ((el es ((el (rowS ns es ((el L i))) k))).2.1)) : Nat) : Int)]) (e := 3) (fun _ => by kernel_rfl) ?_))
                intro w323 hA324
                have hx325 := hA324.ext
                have hs326 := hA324.size
                have hB327 : Blk w323.heap w303.heap.size [.int .i64 (((ixS ns ((el es ((el (rowS ns es ((el L i))) k))).2.1)) : Nat) : Int)] 3 := hA324.new
                have hF328 := hF306.ext hx325
                have hF329 := hF307.ext hx325
                have hF330 := hF308.ext hx325
                have hE331 : Below w9.heap.size w9 w323 := hx325.e hE309 (Nat.le_refl _)
                have hz332 := hE331.le
                have hs333 := hx325.size
                have hS334 := hS312.trans (hx325.mono hS312.size)
                refine ⟨fun _ => hS334, ?_⟩
                refine d_e (by decide) (d_e' rfl rfl (e_appendX T.sl38 rfl rfl hF329 (hB327.src1 (k := 1) (m := 1) rfl (by omega)) (ones (by rfl)) (by omega) (by decide) (by omega) ?_))
                intro v335 w336 hO337 hG338 hN339 hW340
                have hF341 := hF328.gk (hG338) (hF329.rowk) (by decide)
                have hF342 := hF330.gk (hG338) (hF329.rowk) (by decide)
                have hE343 : Below w9.heap.size w9 w336 := grown_below hG338 hE331 (Nat.le_refl _) (fun b hb => (by have := (hF329.lt hb).1; clear hb; omega))
                have hz344 := hE343.le
                have hs345 := hG338.size
                refine ⟨need_no (by kernel_rfl), ?_⟩
                have hO346 := Own.snoc (enc := enN) (u := (ixS ns ((el es ((el (rowS ns es ((el L i))) k))).2.1))) hO337
                obtain ⟨a347, c348, rfl, hm349, hm350⟩ := hO346.src.form
                refine d_q (v := .slice a347 (((L.length + k) + 1)) c348) rfl rfl (fun _ => x_assign rfl) ?_
                refine d_done ?_
                refine kn291 _ _ ?_
                refine kn287 _ _ ?_
                refine region ?_
                refine st_q (v := .int .i64 (((k + 1) : Nat) : Int)) (x_addN rfl rfl (by omega)) ?_
                refine st_q (v := .int .i64 (((k + 1) : Nat) : Int)) (x_move rfl) ?_
                refine st_nil ?_
                refine kn268 _ ((k + 1), .slice a347 (((L.length + k) + 1)) c348) _ ⟨rfl, rfl, rfl, rfl, rfl, rfl, rfl, rfl, rfl, trivial⟩ ⟨hE343, ?_⟩ ?_
                ·
                  try dsimp only
                  exact ⟨by omega, by rw [map_take_succ (by omega), ← List.append_assoc]; exact hO346, hF341, hF342⟩
                ·
                  (try dsimp only); omega
              ·
                refine exit ?_
                refine ke284 _ _ _ ?_
                refine ke270 _ _ _ ?_
                refine kb261 _ _ ?_
                refine kn179 _ _ ?_
                refine kn175 _ _ ?_
                refine region ?_
                refine st_q (v := .int .i64 ((i : Nat) : Int)) (x_move rfl) ?_
                refine st_q (v := .int .i64 (((i + 1) : Nat) : Int)) (x_addN rfl rfl (by omega)) ?_
                refine st_q (v := .int .i64 (((i + 1) : Nat) : Int)) (x_assign rfl) ?_
                refine st_nil ?_
                refine kn152 _ ((i + 1), .slice a271 ((L.length + k)) c272, .slice a244 ((O.length + 1)) c245, (L ++ (rowS ns es (el L i)).map (tgt ns es)), (O ++ [el ns ((el L i))]), (Sn.set ((el L i)) true)) _ ⟨rfl, rfl, rfl, rfl, rfl, rfl, trivial⟩ ⟨hx265, ?_⟩ ?_
                ·
                  try dsimp only
                  obtain rfl : k = (rowS ns es (el L i)).length := by omega
                  have hO2 := hO2
                  rw [List.take_length] at hO2
                  exact ⟨hR.visit hN.sx (by omega) (by assumption) (fun k hk => ⟨(hends k hk).2, (hends k hk).1⟩), by rw [List.length_append, List.length_map]; exact hO2, by rw [List.length_append]; exact hU2, hS2⟩
                ·
                  exact hR.mu (by omega) (by assumption)
        ·
          refine exit ?_
          refine ke168 _ _ _ ?_
          refine ke154 _ _ _ ?_
          refine kb145 _ _ ?_
          refine kn134 _ _ ?_
          refine seqK fun Q351 kn352 kr353 ke354 => ?_
          refine region ?_
          refine st_q (v := .slice a159 O.length c160) (x_move rfl) ?_
          refine st_c (t_call [.slice a159 O.length c160, .func (.func 39) #[] #[]] T.cf48 rfl rfl) (sort48 39 txt T.cf39 cmp39 txt_law _ told39 O _ _ hU.src (by omega)) ?_
          rintro _ w355 ⟨v357, rfl, hx356, hO358⟩
          refine ⟨_, rfl, ?_⟩
          have hF359 := hO.ext hx356
          have hF360 := hS.ext hx356
          have hE361 : Below w9.heap.size w9 w355 := hx356.e hx149 (Nat.le_refl _)
          have hz362 := hE361.le
          have hs363 := hx356.size
          refine st_q (v := v357) (x_assign rfl) ?_
          refine st_nil ?_
          refine kn352 _ _ ?_
          refine ret ?_
          refine leave1 (P := Try.prog) (fn := Try.f26) (t := 4) (v := v357) rfl rfl ?_
          obtain rfl : i = L.length := by omega
          exact ⟨_, srt txt O, rfl, (Below.e hE361 hx10 (Nat.le_refl _)), ⟨srt_SX hR.nd, fun s => (srt_mem s O).trans (hR.done (fun s => by rw [hns]) (fun k hk => hends k hk) s)⟩, by rw [srt_length]; exact hO358.weak (by omega)⟩

end Go.Proofs.Ytknfjgbipfpnjaa
