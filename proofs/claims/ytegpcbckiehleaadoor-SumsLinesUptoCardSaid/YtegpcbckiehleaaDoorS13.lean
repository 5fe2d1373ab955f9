import Derived.Test.YtegpcbckiehleaaDoorS12
import Derived.Test.YtegpcbckiehleaaDoorSLent
namespace Go.Proofs.YtegpcbckiehleaaDoor
open Go.RowKit Go.Eng Go.OrdPure Go.Flt
theorem T.cf41 : CF Tryd.prog 41 := fun _ _ => by kernel_rfl

abbrev MK : ByteArray := ByteArray.mk #[109, 97, 114, 107]
set_option maxHeartbeats 4000000 in
theorem lent12 (pr : ByteArray) (ar : Int) (L : List Row) (va : Value) (w0 : World) (ha : Src w0.heap va L.length 1 (flat enR L)) (hL : RowsP w0.heap L) (hn : L.length ≤ 1048576) (hw : ∀ x ∈ L, x.2.length ≤ 4398046511104) : Calls Tryd.prog 12 #[.agg #[.string pr, .int .i64 ar, va]] w0 fun e w' => ∃ (a : Option Addr) (c : Nat) (M : List Row), e = .returned (.agg #[.string pr, .int .i64 ar, .slice a M.length c]) ∧ Ext w0 w' ∧ tp M = tp L ∧ Lent w'.heap a c M := by
  have hE0 : Below w0.heap.size w0 w0 := Below.refl _ _
  have hz0 := hE0.le
  obtain ⟨a, ca, rfl, hca, hca1⟩ := ha.form
  refine enter Tryd.func12 rfl 41 Tryd.ntmps12 rfl ?_
  refine seqK fun Q1 kn2 kr3 ke4 => ?_
  refine region ?_
  refine st_e (e_box (v := .agg #[.string pr, .int .i64 ar, .slice a L.length ca]) rfl ?_)
  intro w5 hA6
  have hx7 := hA6.ext
  have hs8 := hA6.size
  have hB9 : Blk w5.heap w0.heap.size [.string pr, .int .i64 ar, .slice a L.length ca] 29 := hA6.new
  have hE10 : Below w0.heap.size w0 w5 := hx7.e hE0 (Nat.le_refl _)
  have hz11 := hE10.le
  have hs12 := hx7.size
  refine st_e (e_alloc T.zv29 ?_)
  intro w13 hA14
  have hx15 := hA14.ext
  have hs16 := hA14.size
  have hB17 : Blk w13.heap w5.heap.size [.string ByteArray.empty, .int .i64 ((0 : Nat) : Int), .slice none 0 0] 29 := hA14.new
  have hB18 := hB9.ext hx15
  have hE19 : Below w0.heap.size w0 w13 := hx15.e hE10 (Nat.le_refl _)
  have hz20 := hE19.le
  have hs21 := hx15.size
  refine st_nil ?_
  refine kn2 _ _ ?_
  refine seqK fun Q22 kn23 kr24 ke25 => ?_
  refine region ?_
  refine st_q (v := .slice none 0 0) (x_assign rfl) ?_
  refine st_nil ?_
  refine kn23 _ _ ?_
  refine seqK fun Q26 kn27 kr28 ke29 => ?_
  refine seqK fun Q30 kn31 kr32 ke33 => ?_
  refine region ?_
  refine st_q (v := .int .i64 ((0 : Nat) : Int)) (x_assign rfl) ?_
  refine st_nil ?_
  refine kn31 _ _ ?_
  refine blockK fun Q34 kn35 kr36 kx37 kb38 => ?_
  refine loopK (α := Nat × (List Row) × Value) (fun x => [(1, .pointer (some ⟨w0.heap.size, 0, none⟩)), (2, .pointer (some ⟨w5.heap.size, 0, none⟩)), (3, x.2.2), (4, .int .i64 ((x.1 : Nat) : Int))]) (fun x w39 => Below w0.heap.size w0 w39 ∧ x.1 ≤ L.length ∧ Blk w39.heap w0.heap.size [.string pr, .int .i64 ar, .slice a L.length ca] 29 ∧ Blk w39.heap w5.heap.size [.string ByteArray.empty, .int .i64 ((0 : Nat) : Int), .slice none 0 0] 29 ∧ tp x.2.1 = tp (L.take x.1) ∧ Own w39.heap w0.heap.size 42 1 x.2.2 x.1 (flat enR x.2.1) ∧ RowsO w39.heap w0.heap.size x.2.1) (fun x => L.length - x.1) (0, [], .slice none 0 0) ⟨rfl, rfl, rfl, rfl, trivial⟩ ?_ ?_
  ·
   refine ⟨hE19, ?_⟩
   try dsimp only
   exact ⟨Nat.zero_le _, hB18, hB17, rfl, Own.nil _ _ _ _, RowsO.nil _ _⟩
  ·
   rintro τ40 ⟨i, M, vl⟩ w41 ⟨hx42, ⟨hi, hB1, hB2, hM, hO, hR⟩⟩
   try dsimp only at hi hB1 hB2 hM hO hR
   have hz43 := hx42.le
   intro Q44 kn45 kr46 ke47
   obtain ⟨aV, cV, rfl, hcV, hcV1⟩ := hO.src.form
   have hMl : M.length = i := by have h := congrArg List.length hM; rw [tp_len, tp_len, List.length_take] at h; omega
   have hMlt := hR.below
   refine seqK fun Q48 kn49 kr50 ke51 => ?_
   refine seqK fun Q52 kn53 kr54 ke55 => ?_
   refine region ?_
   refine st_q (v := .int .i64 ((i : Nat) : Int)) (x_move rfl) ?_
   refine st_q (v := .pointer (some ⟨w0.heap.size, 2, none⟩)) (x_field (o := 0) T.fa29_2 rfl) ?_
   refine st_q (v := .slice a L.length ca) (x_load1 T.na27 rfl (hB1.one 2 rfl)) ?_
   refine st_q (v := .int .i64 ((L.length : Nat) : Int)) (x_lenSl rfl Tryd.underlying27 rfl) ?_
   refine st_q (v := .bool (decide (i < L.length))) (x_lssN rfl rfl) ?_
   refine st_nil ?_
   refine kn53 _ _ ?_
   refine cnd (p := i < L.length) rfl (fun h56 => ?_) (fun h56 => ?_)
   ·
    refine skip ?_
    refine kn49 _ _ ?_
    refine seqK fun Q57 kn58 kr59 ke60 => ?_
    refine blockK fun Q61 kn62 kr63 kx64 kb65 => ?_
    refine regionD1 [2, 5, 10, 13] [0, 1, 2, 3, 4, 5, 9, 10, 11, 12, 13, 14, 15, 18] (.one 0 (.one 1 (.one 2 (.one 3 (.one 4 (.one 5 (.one 9 (.one 10 (.one 11 (.one 12 (.one 13 (.one 14 (.two 6 (.one 7 (.one 8 (.one 15 (.one 16 (.one 17 (.one 18 .done)))))) 7 (.one 6 (.one 8 (.one 15 (.one 16 (.one 17 (.one 18 .done))))))))))))))))))) (by kernel_rfl) (by kernel_rfl) ?_
    intro w66 hx67 hs68
    have hB69 := hB1.ext hx67
    have hB70 := hB2.ext hx67
    have hF71 := hO.ext hx67
    have hF72 := hR.ext hx67
    have hE73 : Below w0.heap.size w0 w66 := hx67.e hx42 (Nat.le_refl _)
    have hz74 := hE73.le
    have hs75 := hx67.size
    have hS76 : Ext w66 w66 := Below.refl _ _
    refine d_q (v := .slice aV i cV) rfl rfl (fun _ => x_move rfl) ?_
    refine d_q (v := .pointer (some ⟨w0.heap.size, 2, none⟩)) rfl rfl (fun _ => x_field (o := 0) T.fa29_2 rfl) ?_
    refine d_l (v := .slice a L.length ca) rfl rfl rfl (fun v78 hw77 => x_load1 T.na27 rfl ((hB69.one 2 rfl).ext hw77)) ?_
    refine d_q (v := .int .i64 ((i : Nat) : Int)) rfl rfl (fun _ => x_move rfl) ?_
    obtain ⟨b79, o80, ha81, hc82⟩ := ha.at (by omega)
    refine d_q (v := .pointer (some ⟨b79, o80 + i * 1, none⟩)) rfl rfl (fun _ => x_index' T.sl27 rfl ha81 rfl (by omega)) ?_
    have hs85 := hL _ (el_mem' (i := i) (by omega))
    have hs85c := hs85.capl
    have htl : ((el L i).2.length : Int) = ar ∨ (el L i).2.length ≤ 4398046511104 := .inr (hw _ (el_mem' (by omega)))
    have hww := hw _ (el_mem' (xs := L) (i := i) (by omega))
    refine d_l (v := .slice ((el L i).1.1) ((el L i).2.length) ((el L i).1.2)) rfl rfl rfl (fun v84 hw83 => x_load1 T.na42 rfl (((hc82.below hE73).elem enR_len (i := i) (by omega)).ext hw83)) ?_
    refine d_q (v := .pointer (some ⟨w0.heap.size, 2, none⟩)) rfl rfl (fun _ => x_field (o := 0) T.fa29_2 rfl) ?_
    refine d_l (v := .slice a L.length ca) rfl rfl rfl (fun v87 hw86 => x_load1 T.na27 rfl ((hB69.one 2 rfl).ext hw86)) ?_
    refine d_q (v := .int .i64 ((i : Nat) : Int)) rfl rfl (fun _ => x_move rfl) ?_
    refine d_q (v := .pointer (some ⟨b79, o80 + i * 1, none⟩)) rfl rfl (fun _ => x_index' T.sl27 rfl ha81 rfl (by omega)) ?_
    have hs90 := hL _ (el_mem' (i := i) (by omega))
    have hs90c := hs90.capl
    have htl : ((el L i).2.length : Int) = ar ∨ (el L i).2.length ≤ 4398046511104 := .inr (hw _ (el_mem' (by omega)))
    have hww := hw _ (el_mem' (xs := L) (i := i) (by omega))
    refine d_l (v := .slice ((el L i).1.1) ((el L i).2.length) ((el L i).1.2)) rfl rfl rfl (fun v89 hw88 => x_load1 T.na42 rfl (((hc82.below hE73).elem enR_len (i := i) (by omega)).ext hw88)) ?_
    refine d_q (v := .int .i64 (((el L i).2.length : Nat) : Int)) rfl rfl (fun _ => x_lenSl rfl Tryd.underlying42 rfl) ?_
    refine d_two ?_ ?_
    ·
     refine id (d_e' rfl rfl (e_append0 (lo := w41.heap.size) T.sl42 rfl rfl (hs90.below hE73) (ones (by exact flat_onesS)) (by omega) (by decide) (by omega) ?_))
     intro v91 w92 hO93 hG94 hN95
     have hB96 := hB69.ext hG94
     have hB97 := hB70.ext hG94
     have hF98 := hF71.ext hG94
     have hF99 := hF72.ext hG94
     have hE100 : Below w0.heap.size w0 w92 := hG94.e hE73 (Nat.le_refl _)
     have hz101 := hE100.le
     have hs102 := hG94.size
     have hS103 := hS76.trans (hG94.mono hS76.size)
     refine ⟨fun _ => hS103, ?_⟩
     obtain ⟨a104, c105, rfl, hm106, hm107⟩ := hO93.src.form
     refine d_e (by decide) (d_e' rfl rfl (e_buildSlice (cs := [.string ((ByteArray.mk #[109, 97, 114, 107]))]) (e := 9) (fun _ => by kernel_rfl) ?_))
     intro w108 hA109
     have hx110 := hA109.ext
     have hs111 := hA109.size
     have hB112 : Blk w108.heap w92.heap.size [.string ((ByteArray.mk #[109, 97, 114, 107]))] 9 := hA109.new
     have hB113 := hB96.ext hx110
     have hB114 := hB97.ext hx110
     have hF115 := hF98.ext hx110
     have hF116 := hF99.ext hx110
     have hF117 := hO93.ext hx110
     have hE118 : Below w0.heap.size w0 w108 := hx110.e hE100 (Nat.le_refl _)
     have hz119 := hE118.le
     have hs120 := hx110.size
     have hS121 := hS103.trans (hx110.mono hS103.size)
     refine ⟨fun _ => hS121, ?_⟩
     refine d_e (by decide) (d_e' rfl rfl (e_appendX T.sl42 rfl rfl hF117 (hB112.src1 (k := 1) (m := 1) rfl (by omega)) (ones (by rfl)) (by omega) (by decide) (by omega) ?_))
     intro v122 w123 hO124 hG125 hN126 hW127
     have hB128 := hB113.gk (hG125) (hF117.rowk) (by decide)
     have hB129 := hB114.gk (hG125) (hF117.rowk) (by decide)
     have hF130 := hF115.gk (hG125) (hF117.rowk) (by decide)
     have hF131 := hF116.grown hG125 hMlt (fun k e => by have := (hF117.lt e).1; omega)
     have hE132 : Below w0.heap.size w0 w123 := grown_below hG125 hE118 (Nat.le_refl _) (fun b hb => (by have := (hF117.lt hb).1; clear hb; omega))
     have hz133 := hE132.le
     have hs134 := hG125.size
     have hS135 : Ext w66 w123 := grown_below hG125 hS121 (Nat.le_refl _) (fun b hb => (by have := (hF117.lt hb).1; clear hb; omega))
     refine ⟨fun _ => hS135, ?_⟩
     have hO136 := Own.snoc (enc := enS) (u := (ByteArray.mk #[109, 97, 114, 107])) hO124
     obtain ⟨a137, c138, rfl, hm139, hm140⟩ := hO136.src.form
     refine d_q (v := .slice a137 ((el L i).2.length) c138) rfl rfl (fun _ => x_sliceHi T.sl42 rfl rfl (by omega)) ?_
     refine d_e (by decide) (d_e' rfl rfl (e_buildSlice (cs := [.slice a137 ((el L i).2.length) c138]) (e := 42) (fun _ => by kernel_rfl) ?_))
     intro w141 hA142
     have hx143 := hA142.ext
     have hs144 := hA142.size
     have hB145 : Blk w141.heap w123.heap.size [.slice a137 ((el L i).2.length) c138] 42 := hA142.new
     have hB146 := hB128.ext hx143
     have hB147 := hB129.ext hx143
     have hF148 := hF130.ext hx143
     have hF149 := hF131.ext hx143
     have hF150 := hO136.ext hx143
     have hE151 : Below w0.heap.size w0 w141 := hx143.e hE132 (Nat.le_refl _)
     have hz152 := hE151.le
     have hs153 := hx143.size
     have hS154 := hS135.trans (hx143.mono hS135.size)
     refine ⟨fun _ => hS154, ?_⟩
     have hR155 : RowsO w141.heap w0.heap.size (M ++ [((a137, c138), (el L i).2)]) := hF149.snoc (by omega) (by show _ ≤ _; dsimp only; omega) (show Own _ w41.heap.size 9 1 _ _ _ from hF150)
     refine d_e (by decide) (d_e' rfl rfl (e_appendX T.sl27 rfl rfl hF148 (hB145.src1 (k := 1) (m := 1) rfl (by omega)) (ones (by rfl)) (by omega) (by decide) (by omega) ?_))
     intro v156 w157 hO158 hG159 hN160 hW161
     have hB162 := hB146.gk (hG159) (hF148.rowk) (by decide)
     have hB163 := hB147.gk (hG159) (hF148.rowk) (by decide)
     have hF164 := hR155.gk (hG159) (hF148.rowk) (by decide)
     have hE165 : Below w0.heap.size w0 w157 := grown_below hG159 hE151 (Nat.le_refl _) (fun b hb => (by have := (hF148.lt hb).1; clear hb; omega))
     have hz166 := hE165.le
     have hs167 := hG159.size
     refine ⟨need_no (by kernel_rfl), ?_⟩
     have hO168 := Own.snoc (enc := enR) (u := ((a137, c138), (el L i).2)) hO158
     obtain ⟨a169, c170, rfl, hm171, hm172⟩ := hO168.src.form
     refine d_q (v := .slice a169 ((i + 1)) c170) rfl rfl (fun _ => x_assign rfl) ?_
     refine d_done ?_
     refine kn62 _ _ ?_
     refine kn58 _ _ ?_
     refine region ?_
     refine st_q (v := .int .i64 ((i : Nat) : Int)) (x_move rfl) ?_
     refine st_q (v := .int .i64 (((i + 1) : Nat) : Int)) (x_addN rfl rfl (by omega)) ?_
     refine st_q (v := .int .i64 (((i + 1) : Nat) : Int)) (x_assign rfl) ?_
     refine st_nil ?_
     refine kn45 _ ((i + 1), (M ++ [((a137, c138), (el L i).2)]), .slice a169 ((i + 1)) c170) _ ⟨rfl, rfl, rfl, rfl, trivial⟩ ⟨hE165, ?_⟩ ?_
     ·
      try dsimp only
      exact ⟨by omega, hB162, hB163, by rw [tp_take_succ (by omega), ← hM]; simp [tp], hO168, hF164⟩
     ·
      (try dsimp only); omega
    ·
     refine id (d_e' rfl rfl (e_buildSlice (cs := [.string ((ByteArray.mk #[109, 97, 114, 107]))]) (e := 9) (fun _ => by kernel_rfl) ?_))
     intro w173 hA174
     have hx175 := hA174.ext
     have hs176 := hA174.size
     have hB177 : Blk w173.heap w66.heap.size [.string ((ByteArray.mk #[109, 97, 114, 107]))] 9 := hA174.new
     have hB178 := hB69.ext hx175
     have hB179 := hB70.ext hx175
     have hF180 := hF71.ext hx175
     have hF181 := hF72.ext hx175
     have hE182 : Below w0.heap.size w0 w173 := hx175.e hE73 (Nat.le_refl _)
     have hz183 := hE182.le
     have hs184 := hx175.size
     have hS185 := hS76.trans (hx175.mono hS76.size)
     refine ⟨fun _ => hS185, ?_⟩
     refine d_e (by decide) (d_e' rfl rfl (e_append0 (lo := w41.heap.size) T.sl42 rfl rfl (hs90.below hE182) (ones (by exact flat_onesS)) (by omega) (by decide) (by omega) ?_))
     intro v186 w187 hO188 hG189 hN190
     have hB191 := hB178.ext hG189
     have hB192 := hB179.ext hG189
     have hB193 := hB177.ext hG189
     have hF194 := hF180.ext hG189
     have hF195 := hF181.ext hG189
     have hE196 : Below w0.heap.size w0 w187 := hG189.e hE182 (Nat.le_refl _)
     have hz197 := hE196.le
     have hs198 := hG189.size
     have hS199 := hS185.trans (hG189.mono hS185.size)
     refine ⟨fun _ => hS199, ?_⟩
     obtain ⟨a200, c201, rfl, hm202, hm203⟩ := hO188.src.form
     refine d_e (by decide) (d_e' rfl rfl (e_appendX T.sl42 rfl rfl hO188 (hB193.src1 (k := 1) (m := 1) rfl (by omega)) (ones (by rfl)) (by omega) (by decide) (by omega) ?_))
     intro v204 w205 hO206 hG207 hN208 hW209
     have hB210 := hB191.gk (hG207) (hO188.rowk) (by decide)
     have hB211 := hB192.gk (hG207) (hO188.rowk) (by decide)
     have hF212 := hF194.gk (hG207) (hO188.rowk) (by decide)
     have hF213 := hF195.grown hG207 hMlt (fun k e => by have := (hO188.lt e).1; omega)
     have hE214 : Below w0.heap.size w0 w205 := grown_below hG207 hE196 (Nat.le_refl _) (fun b hb => (by have := (hO188.lt hb).1; clear hb; omega))
     have hz215 := hE214.le
     have hs216 := hG207.size
     have hS217 : Ext w66 w205 := grown_below hG207 hS199 (Nat.le_refl _) (fun b hb => (by have := (hO188.lt hb).1; clear hb; omega))
     refine ⟨fun _ => hS217, ?_⟩
     have hO218 := Own.snoc (enc := enS) (u := (ByteArray.mk #[109, 97, 114, 107])) hO206
     obtain ⟨a219, c220, rfl, hm221, hm222⟩ := hO218.src.form
     refine d_q (v := .slice a219 ((el L i).2.length) c220) rfl rfl (fun _ => x_sliceHi T.sl42 rfl rfl (by omega)) ?_
     refine d_e (by decide) (d_e' rfl rfl (e_buildSlice (cs := [.slice a219 ((el L i).2.length) c220]) (e := 42) (fun _ => by kernel_rfl) ?_))
     intro w223 hA224
     have hx225 := hA224.ext
     have hs226 := hA224.size
     have hB227 : Blk w223.heap w205.heap.size [.slice a219 ((el L i).2.length) c220] 42 := hA224.new
     have hB228 := hB210.ext hx225
     have hB229 := hB211.ext hx225
     have hF230 := hF212.ext hx225
     have hF231 := hF213.ext hx225
     have hF232 := hO218.ext hx225
     have hE233 : Below w0.heap.size w0 w223 := hx225.e hE214 (Nat.le_refl _)
     have hz234 := hE233.le
     have hs235 := hx225.size
     have hS236 := hS217.trans (hx225.mono hS217.size)
     refine ⟨fun _ => hS236, ?_⟩
     have hR237 : RowsO w223.heap w0.heap.size (M ++ [((a219, c220), (el L i).2)]) := hF231.snoc (by omega) (by show _ ≤ _; dsimp only; omega) (show Own _ w41.heap.size 9 1 _ _ _ from hF232)
     refine d_e (by decide) (d_e' rfl rfl (e_appendX T.sl27 rfl rfl hF230 (hB227.src1 (k := 1) (m := 1) rfl (by omega)) (ones (by rfl)) (by omega) (by decide) (by omega) ?_))
     intro v238 w239 hO240 hG241 hN242 hW243
     have hB244 := hB228.gk (hG241) (hF230.rowk) (by decide)
     have hB245 := hB229.gk (hG241) (hF230.rowk) (by decide)
     have hF246 := hR237.gk (hG241) (hF230.rowk) (by decide)
     have hE247 : Below w0.heap.size w0 w239 := grown_below hG241 hE233 (Nat.le_refl _) (fun b hb => (by have := (hF230.lt hb).1; clear hb; omega))
     have hz248 := hE247.le
     have hs249 := hG241.size
     refine ⟨need_no (by kernel_rfl), ?_⟩
     have hO250 := Own.snoc (enc := enR) (u := ((a219, c220), (el L i).2)) hO240
     obtain ⟨a251, c252, rfl, hm253, hm254⟩ := hO250.src.form
     refine d_q (v := .slice a251 ((i + 1)) c252) rfl rfl (fun _ => x_assign rfl) ?_
     refine d_done ?_
     refine kn62 _ _ ?_
     refine kn58 _ _ ?_
     refine region ?_
     refine st_q (v := .int .i64 ((i : Nat) : Int)) (x_move rfl) ?_
     refine st_q (v := .int .i64 (((i + 1) : Nat) : Int)) (x_addN rfl rfl (by omega)) ?_
     refine st_q (v := .int .i64 (((i + 1) : Nat) : Int)) (x_assign rfl) ?_
     refine st_nil ?_
     refine kn45 _ ((i + 1), (M ++ [((a219, c220), (el L i).2)]), .slice a251 ((i + 1)) c252) _ ⟨rfl, rfl, rfl, rfl, trivial⟩ ⟨hE247, ?_⟩ ?_
     ·
      try dsimp only
      exact ⟨by omega, hB244, hB245, by rw [tp_take_succ (by omega), ← hM]; simp [tp], hO250, hF246⟩
     ·
      (try dsimp only); omega
   ·
    refine exit ?_
    refine ke51 _ _ _ ?_
    refine ke47 _ _ _ ?_
    refine kb38 _ _ ?_
    refine kn27 _ _ ?_
    refine seqK fun Q255 kn256 kr257 ke258 => ?_
    refine region ?_
    refine st_q (v := .slice aV i cV) (x_move rfl) ?_
    refine st_e (e_buildSlice (cs := [.string ((ByteArray.mk #[109, 97, 114, 107]))]) (e := 9) (fun _ => by kernel_rfl) ?_)
    intro w259 hA260
    have hx261 := hA260.ext
    have hs262 := hA260.size
    have hB263 : Blk w259.heap w41.heap.size [.string ((ByteArray.mk #[109, 97, 114, 107]))] 9 := hA260.new
    have hB264 := hB1.ext hx261
    have hB265 := hB2.ext hx261
    have hF266 := hO.ext hx261
    have hF267 := hR.ext hx261
    have hE268 : Below w0.heap.size w0 w259 := hx261.e hx42 (Nat.le_refl _)
    have hz269 := hE268.le
    have hs270 := hx261.size
    refine st_e (e_buildSlice (cs := [.slice ((some ⟨w41.heap.size, 0, none⟩)) 1 1]) (e := 42) (fun _ => by kernel_rfl) ?_)
    intro w271 hA272
    have hx273 := hA272.ext
    have hs274 := hA272.size
    have hB275 : Blk w271.heap w259.heap.size [.slice ((some ⟨w41.heap.size, 0, none⟩)) 1 1] 42 := hA272.new
    have hB276 := hB264.ext hx273
    have hB277 := hB265.ext hx273
    have hB278 := hB263.ext hx273
    have hF279 := hF266.ext hx273
    have hF280 := hF267.ext hx273
    have hE281 : Below w0.heap.size w0 w271 := hx273.e hE268 (Nat.le_refl _)
    have hz282 := hE281.le
    have hs283 := hx273.size
    refine st_e (e_appendX T.sl27 rfl rfl hF279 (hB275.src1 (k := 1) (m := 1) rfl (by omega)) (ones (by rfl)) (by omega) (by decide) (by omega) ?_)
    intro v284 w285 hO286 hG287 hN288 hW289
    have hB290 := hB276.gk (hG287) (hF279.rowk) (by decide)
    have hB291 := hB277.gk (hG287) (hF279.rowk) (by decide)
    have hB292 := hB278.gk (hG287) (hF279.rowk) (by decide)
    have hF293 := hF280.gk (hG287) (hF279.rowk) (by decide)
    have hE294 : Below w0.heap.size w0 w285 := grown_below hG287 hE281 (Nat.le_refl _) (fun b hb => (by have := (hF279.lt hb).1; clear hb; omega))
    have hz295 := hE294.le
    have hs296 := hG287.size
    have hO297 := Own.snoc (enc := enR) (u := (((some ⟨w41.heap.size, 0, none⟩), 1), [MK])) hO286
    obtain ⟨a298, c299, rfl, hm300, hm301⟩ := hO297.src.form
    refine st_q (v := .slice a298 ((i + 1)) c299) (x_assign rfl) ?_
    refine st_nil ?_
    refine kn256 _ _ ?_
    refine seqK fun Q302 kn303 kr304 ke305 => ?_
    refine region ?_
    refine st_q (v := .slice a298 ((i + 1)) c299) (x_move rfl) ?_
    refine st_q (v := .pointer (some ⟨w0.heap.size, 2, none⟩)) (x_field (o := 0) T.fa29_2 rfl) ?_
    refine st_q (v := .slice a L.length ca) (x_load1 T.na27 rfl (hB290.one 2 rfl)) ?_
    refine st_q (v := .int .i64 ((L.length : Nat) : Int)) (x_lenSl rfl Tryd.underlying27 rfl) ?_
    refine st_q (v := .slice a298 L.length c299) (x_sliceHi T.sl27 rfl rfl (by omega)) ?_
    refine st_q (v := .pointer (some ⟨w0.heap.size, 2, none⟩)) (x_field (o := 0) T.fa29_2 rfl) ?_
    refine st_s (e_st (v := .slice a298 L.length c299) T.sz27 rfl rfl hB290 (by simp [Value.cells]) (by rfl) ?_)
    intro w306 hP307
    have hB308 : Blk w306.heap w0.heap.size [.string pr, .int .i64 ar, .slice a298 L.length c299] 29 := hP307.new
    have hs309 := hP307.size
    have hB310 := hB291.pt hP307 (by omega)
    have hB311 := hB292.gk (hP307.grownBy) (hB290.rowk) (by decide)
    have hF312 := hF293.gk (hP307.grownBy) (hB290.rowk) (by decide)
    have hF313 := hO297.gk (hP307.grownBy) (hB290.rowk) (by decide)
    have hE314 : Below w0.heap.size w0 w306 := hP307.below hE294 (by omega)
    have hz315 := hE314.le
    refine st_nil ?_
    refine kn303 _ _ ?_
    refine seqK fun Q316 kn317 kr318 ke319 => ?_
    refine region ?_
    refine st_q (v := .agg #[.string pr, .int .i64 ar, .slice a298 L.length c299]) (x_loadA [.string pr, .int .i64 ar, .slice a298 L.length c299] T.ag29 rfl (hB308.cells 0 [.string pr, .int .i64 ar, .slice a298 L.length c299] (cells_at rfl))) ?_
    refine st_s (e_st (v := .agg #[.string pr, .int .i64 ar, .slice a298 L.length c299]) T.sz29 rfl rfl hB310 (by simp [Value.cells]) (by rfl) ?_)
    intro w320 hP321
    have hB322 : Blk w320.heap w5.heap.size [.string pr, .int .i64 ar, .slice a298 L.length c299] 29 := hP321.new
    have hs323 := hP321.size
    have hB324 := hB311.gk (hP321.grownBy) (hB310.rowk) (by decide)
    have hB325 := hB308.pt hP321 (by omega)
    have hF326 := hF312.gk (hP321.grownBy) (hB310.rowk) (by decide)
    have hF327 := hF313.gk (hP321.grownBy) (hB310.rowk) (by decide)
    have hE328 : Below w0.heap.size w0 w320 := hP321.below hE314 (by omega)
    have hz329 := hE328.le
    refine st_nil ?_
    refine kn317 _ _ ?_
    refine ret ?_
    refine leaveC (P := Tryd.prog) (fn := Tryd.f12) (t := 2) (T := 29) (b := w5.heap.size) (o := 0) (cs := [.string pr, .int .i64 ar, .slice a298 L.length c299]) rfl T.ag29 rfl (hB322.cells 0 [.string pr, .int .i64 ar, .slice a298 L.length c299] (cells_at rfl)) ?_
    have ei : i = L.length := by omega
    have hMP : tp M = tp L := by rw [hM, ei, List.take_length]
    have hSl : Src w320.heap (.slice a298 (i + 1) c299) (i + 1) 1 (flat enR (M ++ [(((some ⟨w41.heap.size, 0, none⟩), 1), [MK])])) := hF327.src
    rw [← hMl] at hSl
    have hcap := hSl.capl
    refine ⟨a298, c299, M, by rw [hMl, ei], hE328, hMP, ⟨by omega, ⟨(((some ⟨w41.heap.size, 0, none⟩), 1), [MK]), hSl, rfl, hB324.src1 (k := 1) (m := 1) rfl (by omega)⟩, fun x hx => ⟨(hF326.own x hx).1, (hF326.own x hx).2.src⟩⟩⟩

set_option maxHeartbeats 4000000 in
theorem left18 (pr : ByteArray) (ar : Int) (L M : List Row) (va : Value) (a : Option Addr) (c : Nat) (w0 : World) (ha : Src w0.heap va L.length 1 (flat enR L)) (hL : RowsP w0.heap L) (hLt : Lent w0.heap a c M) (hMP : tp M = tp L) (hn : L.length ≤ 1048576) : Calls Tryd.prog 18 #[.agg #[.string pr, .int .i64 ar, .slice a M.length c], .agg #[.string pr, .int .i64 ar, va]] w0 fun e w' => e = .returned (.bool true) ∧ Ext w0 w' := by
  have hE0 : Below w0.heap.size w0 w0 := Below.refl _ _
  have hz0 := hE0.le
  obtain ⟨va0, cv, rfl, hcv, hcv1⟩ := ha.form
  obtain ⟨mr, hSl, h2, hmr⟩ := hLt.list
  obtain ⟨mp, mt⟩ := mr
  have h2 : mt = [markT] := h2
  subst h2
  have hmr : Src w0.heap (.slice mp.1 1 mp.2) 1 1 (flat enS [markT]) := hmr
  have hcm := hmr.capl
  have hcp := hLt.cap
  have hll : L.length = M.length := by have h := congrArg List.length hMP; rw [tp_len, tp_len] at h; omega
  have hlm : (M ++ [(mp, [markT])]).length = M.length + 1 := by simp
  have hcs := hSl.capl
  have hm1 : [markT].length = 1 := rfl
  refine enter Tryd.func18 rfl 55 Tryd.ntmps18 rfl ?_
  refine seqK fun Q1 kn2 kr3 ke4 => ?_
  refine region ?_
  refine st_e (e_box (v := .agg #[.string pr, .int .i64 ar, .slice a M.length c]) rfl ?_)
  intro w5 hA6
  have hx7 := hA6.ext
  have hs8 := hA6.size
  have hB9 : Blk w5.heap w0.heap.size [.string pr, .int .i64 ar, .slice a M.length c] 29 := hA6.new
  have hE10 : Below w0.heap.size w0 w5 := hx7.e hE0 (Nat.le_refl _)
  have hz11 := hE10.le
  have hs12 := hx7.size
  refine st_e (e_box (v := .agg #[.string pr, .int .i64 ar, .slice va0 L.length cv]) rfl ?_)
  intro w13 hA14
  have hx15 := hA14.ext
  have hs16 := hA14.size
  have hB17 : Blk w13.heap w5.heap.size [.string pr, .int .i64 ar, .slice va0 L.length cv] 29 := hA14.new
  have hB18 := hB9.ext hx15
  have hE19 : Below w0.heap.size w0 w13 := hx15.e hE10 (Nat.le_refl _)
  have hz20 := hE19.le
  have hs21 := hx15.size
  refine st_q (v := .bool false) (x_assign rfl) ?_
  refine st_nil ?_
  refine kn2 _ _ ?_
  refine seqK fun Q22 kn23 kr24 ke25 => ?_
  refine seqK fun Q26 kn27 kr28 ke29 => ?_
  refine regionD1 [1, 3, 8, 10, 15, 18, 20] [0, 1, 2, 3, 5, 6, 7, 8, 9, 10, 11, 12, 13, 14, 15, 16, 17, 18, 19, 20, 21, 22] (.one 0 (.one 1 (.one 2 (.one 3 (.one 4 (.one 5 (.one 6 (.one 7 (.one 8 (.one 9 (.one 10 (.one 11 (.one 12 (.one 13 (.one 14 (.one 15 (.one 16 (.one 17 (.one 18 (.one 19 (.one 20 (.one 21 (.one 22 .done))))))))))))))))))))))) (by kernel_rfl) (by kernel_rfl) ?_
  intro w30 hx31 hs32
  have hB33 := hB18.ext hx31
  have hB34 := hB17.ext hx31
  have hE35 : Below w0.heap.size w0 w30 := hx31.e hE19 (Nat.le_refl _)
  have hz36 := hE35.le
  have hs37 := hx31.size
  have hS38 : Ext w30 w30 := Below.refl _ _
  refine d_q (v := .pointer (some ⟨w0.heap.size, 2, none⟩)) rfl rfl (fun _ => x_field (o := 0) T.fa29_2 rfl) ?_
  refine d_l (v := .slice a M.length c) rfl rfl rfl (fun v40 hw39 => x_load1 T.na27 rfl ((hB33.one 2 rfl).ext hw39)) ?_
  refine d_q (v := .pointer (some ⟨w5.heap.size, 2, none⟩)) rfl rfl (fun _ => x_field (o := 0) T.fa29_2 rfl) ?_
  refine d_l (v := .slice va0 L.length cv) rfl rfl rfl (fun v42 hw41 => x_load1 T.na27 rfl ((hB34.one 2 rfl).ext hw41)) ?_
  refine d_e (by decide) (d_c' rfl rfl (t_call [.slice a M.length c, .slice va0 L.length cv] T.cf41 rfl rfl) (same41 M L _ _ _ (hLt.src.below hE35) (ha.below hE35) (RowsP.below hLt.rowsP hE35) (RowsP.below hL hE35)) ?_)
  rintro _ w43 ⟨rfl, hx44⟩
  refine ⟨_, rfl, ?_⟩
  have hB45 := hB33.ext hx44
  have hB46 := hB34.ext hx44
  have hE47 : Below w0.heap.size w0 w43 := hx44.e hE35 (Nat.le_refl _)
  have hz48 := hE47.le
  have hs49 := hx44.size
  have hS50 := hS38.trans (hx44.mono hS38.size)
  refine ⟨fun _ => hS50, ?_⟩
  refine d_q (v := .bool (decide (¬ (tp M = tp L)))) rfl rfl (fun _ => x_notP rfl) ?_
  refine d_if rfl rfl (p := ¬ (tp M = tp L)) (fun _ => x_move rfl) (fun h51 => ?_) (fun h51 => ?_)
  ·
   exact absurd h51 (not_not_intro hMP)
  ·
   refine d_gq (v := .pointer (some ⟨w0.heap.size, 2, none⟩)) (j := 6) (t := 13) rfl rfl rfl rfl (by decide) (fun _ => x_field (o := 0) T.fa29_2 rfl) ?_
   refine d_gl (v := .slice a M.length c) (j := 6) (t := 13) rfl rfl rfl rfl rfl (by decide) (fun v53 hw52 => x_load1 T.na27 rfl ((hB33.one 2 rfl).ext hw52)) ?_
   refine d_gq (v := .pointer (some ⟨w5.heap.size, 2, none⟩)) (j := 6) (t := 13) rfl rfl rfl rfl (by decide) (fun _ => x_field (o := 0) T.fa29_2 rfl) ?_
   refine d_gl (v := .slice va0 L.length cv) (j := 6) (t := 13) rfl rfl rfl rfl rfl (by decide) (fun v55 hw54 => x_load1 T.na27 rfl ((hB34.one 2 rfl).ext hw54)) ?_
   refine d_gq (v := .int .i64 ((L.length : Nat) : Int)) (j := 6) (t := 13) rfl rfl rfl rfl (by decide) (fun _ => x_lenSl rfl Tryd.underlying27 rfl) ?_
   refine d_gq (v := .int .i64 (((L.length + 1) : Nat) : Int)) (j := 6) (t := 13) rfl rfl rfl rfl (by decide) (fun _ => x_addN rfl rfl (by omega)) ?_
   refine d_gq (v := .slice a ((L.length + 1)) c) (j := 6) (t := 13) rfl rfl rfl rfl (by decide) (fun _ => x_sliceHi T.sl27 rfl rfl (by omega)) ?_
   refine d_gq (v := .pointer (some ⟨w5.heap.size, 2, none⟩)) (j := 6) (t := 13) rfl rfl rfl rfl (by decide) (fun _ => x_field (o := 0) T.fa29_2 rfl) ?_
   refine d_gl (v := .slice va0 L.length cv) (j := 6) (t := 13) rfl rfl rfl rfl rfl (by decide) (fun v57 hw56 => x_load1 T.na27 rfl ((hB34.one 2 rfl).ext hw56)) ?_
   refine d_gq (v := .int .i64 ((L.length : Nat) : Int)) (j := 6) (t := 13) rfl rfl rfl rfl (by decide) (fun _ => x_lenSl rfl Tryd.underlying27 rfl) ?_
   obtain ⟨b58, o59, ha60, hc61⟩ := hSl.at (by omega)
   refine d_gq (v := .pointer (some ⟨b58, o59 + L.length * 1, none⟩)) (j := 6) (t := 13) rfl rfl rfl rfl (by decide) (fun _ => x_index' T.sl27 rfl ha60 rfl (by omega)) ?_
   have hlast : el (M ++ [(mp, [markT])]) L.length = (mp, [markT]) := by rw [hll]; exact el_snoc_last _ _
   refine d_gl (v := .slice mp.1 1 mp.2) (j := 6) (t := 13) rfl rfl rfl rfl rfl (by decide) (fun v63 hw62 => x_load1 T.na42 rfl (Cells.conv (((hc61.below hE35).elem enR_len (i := L.length) (by omega)).ext hw62) (by rw [hlast]; rfl))) ?_
   obtain ⟨b64, o65, ha66, hc67⟩ := hmr.at (by omega)
   refine d_gq (v := .pointer (some ⟨b64, o65 + 0 * 1, none⟩)) (j := 6) (t := 13) rfl rfl rfl rfl (by decide) (fun _ => x_index' T.sl42 rfl ha66 rfl (by omega)) ?_
   refine d_gl (v := .string (el [markT] 0)) (j := 6) (t := 13) rfl rfl rfl rfl rfl (by decide) (fun v69 hw68 => x_load1 T.na9 rfl (((hc67.below hE35).elem enS_len (i := 0) (by omega)).ext hw68)) ?_
   refine d_gq (v := .bool (decide ((el [markT] 0).toList ≠ ((ByteArray.mk #[109, 97, 114, 107])).toList))) (j := 6) (t := 13) rfl rfl rfl rfl (by decide) (fun _ => x_neqS rfl rfl) ?_
   refine d_q (v := .bool (decide ((el [markT] 0).toList ≠ ((ByteArray.mk #[109, 97, 114, 107])).toList))) rfl rfl (fun _ => x_pickF rfl rfl) ?_
   refine d_done ?_
   refine kn27 _ _ ?_
   refine cnd (p := (el [markT] 0).toList ≠ ((ByteArray.mk #[109, 97, 114, 107])).toList) rfl (fun h70 => ?_) (fun h70 => ?_)
   ·
    exact absurd h70 (not_not_intro rfl)
   ·
    refine skip ?_
    refine kn23 _ _ ?_
    refine seqK fun Q71 kn72 kr73 ke74 => ?_
    refine seqK fun Q75 kn76 kr77 ke78 => ?_
    refine region ?_
    refine st_q (v := .int .i64 ((0 : Nat) : Int)) (x_assign rfl) ?_
    refine st_nil ?_
    refine kn76 _ _ ?_
    refine blockK fun Q79 kn80 kr81 kx82 kb83 => ?_
    refine loopK (α := Nat) (fun x => [(2, .pointer (some ⟨w0.heap.size, 0, none⟩)), (3, .pointer (some ⟨w5.heap.size, 0, none⟩)), (5, .int .i64 ((x : Nat) : Int))]) (fun x w84 => Ext w43 w84 ∧ x ≤ L.length) (fun x => L.length - x) (0) ⟨rfl, rfl, rfl, trivial⟩ ?_ ?_
    ·
     refine ⟨Below.refl _ _, ?_⟩
     try dsimp only
     exact Nat.zero_le _
    ·
     rintro τ85 i w86 ⟨hx87, hi⟩
     try dsimp only at hi
     have hB88 := hB45.ext hx87
     have hB89 := hB46.ext hx87
     have hE90 : Below w0.heap.size w0 w86 := hx87.e hE47 (Nat.le_refl _)
     have hz91 := hE90.le
     have hs92 := hx87.size
     intro Q93 kn94 kr95 ke96
     refine seqK fun Q97 kn98 kr99 ke100 => ?_
     refine seqK fun Q101 kn102 kr103 ke104 => ?_
     refine region ?_
     refine st_q (v := .int .i64 ((i : Nat) : Int)) (x_move rfl) ?_
     refine st_q (v := .pointer (some ⟨w5.heap.size, 2, none⟩)) (x_field (o := 0) T.fa29_2 rfl) ?_
     refine st_q (v := .slice va0 L.length cv) (x_load1 T.na27 rfl (hB89.one 2 rfl)) ?_
     refine st_q (v := .int .i64 ((L.length : Nat) : Int)) (x_lenSl rfl Tryd.underlying27 rfl) ?_
     refine st_q (v := .bool (decide (i < L.length))) (x_lssN rfl rfl) ?_
     refine st_nil ?_
     refine kn102 _ _ ?_
     refine cnd (p := i < L.length) rfl (fun h105 => ?_) (fun h105 => ?_)
     ·
      refine skip ?_
      refine kn98 _ _ ?_
      refine seqK fun Q106 kn107 kr108 ke109 => ?_
      refine blockK fun Q110 kn111 kr112 kx113 kb114 => ?_
      refine seqK fun Q115 kn116 kr117 ke118 => ?_
      refine region ?_
      refine st_q (v := .pointer (some ⟨w5.heap.size, 2, none⟩)) (x_field (o := 0) T.fa29_2 rfl) ?_
      refine st_q (v := .slice va0 L.length cv) (x_load1 T.na27 rfl (hB89.one 2 rfl)) ?_
      refine st_q (v := .int .i64 ((i : Nat) : Int)) (x_move rfl) ?_
      obtain ⟨b119, o120, ha121, hc122⟩ := ha.at (by omega)
      refine st_q (v := .pointer (some ⟨b119, o120 + i * 1, none⟩)) (x_index' T.sl27 rfl ha121 rfl (by omega)) ?_
      have hsl := (hL _ (el_mem' (xs := L) (i := i) (by omega))).capl
      refine st_q (v := .slice ((el L i).1.1) ((el L i).2.length) ((el L i).1.2)) (x_load1 T.na42 rfl ((hc122.below hE90).elem enR_len (i := i) (by omega))) ?_
      refine st_q (v := .int .i64 (((el L i).2.length : Nat) : Int)) (x_lenSl rfl Tryd.underlying42 rfl) ?_
      refine st_q (v := .int .i64 (((el L i).2.length : Nat) : Int)) (x_assign rfl) ?_
      refine st_nil ?_
      refine kn116 _ _ ?_
      refine seqK fun Q123 kn124 kr125 ke126 => ?_
      refine region ?_
      refine st_q (v := .pointer (some ⟨w0.heap.size, 2, none⟩)) (x_field (o := 0) T.fa29_2 rfl) ?_
      refine st_q (v := .slice a M.length c) (x_load1 T.na27 rfl (hB88.one 2 rfl)) ?_
      refine st_q (v := .int .i64 ((i : Nat) : Int)) (x_move rfl) ?_
      refine st_q (v := .pointer (some ⟨b58, o59 + i * 1, none⟩)) (x_index' T.sl27 rfl ha60 rfl (by omega)) ?_
      have hrw := hLt.rows _ (el_mem' (xs := M) (i := i) (by omega))
      have hrc := Src.capl (a := (el M i).1.1) (c := (el M i).1.2) hrw.2
      have hee : (el M i).2 = (el L i).2 := by rw [← tp_el (by omega), ← tp_el (by omega), hMP]
      have hle := congrArg List.length hee
      have hel1 : ((el M i).2 ++ [markT]).length = (el M i).2.length + 1 := by simp
      have hmk : el ((el M i).2 ++ [markT]) (el L i).2.length = markT := by rw [← hee]; exact el_snoc_last _ _
      refine st_q (v := .slice ((el M i).1.1) ((el M i).2.length) ((el M i).1.2)) (x_load1 T.na42 rfl (Cells.conv ((hc61.below hE90).elem enR_len (i := i) (by omega)) (by rw [el_append_left (by omega)]))) ?_
      refine st_q (v := .int .i64 (((el L i).2.length : Nat) : Int)) (x_move rfl) ?_
      refine st_q (v := .int .i64 ((((el L i).2.length + 1) : Nat) : Int)) (x_addN rfl rfl (by omega)) ?_
      refine st_q (v := .slice ((el M i).1.1) (((el L i).2.length + 1)) ((el M i).1.2)) (x_sliceHi T.sl42 rfl rfl (by omega)) ?_
      refine st_q (v := .int .i64 (((el L i).2.length : Nat) : Int)) (x_move rfl) ?_
      obtain ⟨b127, o128, ha129, hc130⟩ := hrw.2.at (by omega)
      refine st_q (v := .pointer (some ⟨b127, o128 + ((el L i).2.length) * 1, none⟩)) (x_index' T.sl42 rfl ha129 rfl (by omega)) ?_
      refine st_q (v := .string (el ((el M i).2 ++ [markT]) ((el L i).2.length))) (x_load1 T.na9 rfl ((hc130.below hE90).elem enS_len (i := (el L i).2.length) (by omega))) ?_
      refine st_q (v := .bool (decide ((el ((el M i).2 ++ [markT]) ((el L i).2.length)).toList ≠ ((ByteArray.mk #[109, 97, 114, 107])).toList))) (x_neqS rfl rfl) ?_
      refine st_nil ?_
      refine kn124 _ _ ?_
      refine cnd (p := (el ((el M i).2 ++ [markT]) ((el L i).2.length)).toList ≠ ((ByteArray.mk #[109, 97, 114, 107])).toList) rfl (fun h131 => ?_) (fun h131 => ?_)
      ·
       exact absurd h131 (not_not_intro (by rw [hmk]; rfl))
      ·
       refine skip ?_
       refine kn111 _ _ ?_
       refine kn107 _ _ ?_
       refine region ?_
       refine st_q (v := .int .i64 ((i : Nat) : Int)) (x_move rfl) ?_
       refine st_q (v := .int .i64 (((i + 1) : Nat) : Int)) (x_addN rfl rfl (by omega)) ?_
       refine st_q (v := .int .i64 (((i + 1) : Nat) : Int)) (x_assign rfl) ?_
       refine st_nil ?_
       refine kn94 _ ((i + 1)) _ ⟨rfl, rfl, rfl, trivial⟩ ⟨hx87, ?_⟩ ?_
       ·
        try dsimp only
        show _ ≤ _; omega
       ·
        (try dsimp only); omega
     ·
      refine exit ?_
      refine ke100 _ _ _ ?_
      refine ke96 _ _ _ ?_
      refine kb83 _ _ ?_
      refine kn72 _ _ ?_
      refine seqK fun Q132 kn133 kr134 ke135 => ?_
      refine region ?_
      refine st_q (v := .bool true) (x_assign rfl) ?_
      refine st_nil ?_
      refine kn133 _ _ ?_
      refine ret ?_
      refine leave1 (P := Tryd.prog) (fn := Tryd.f18) (t := 4) (v := .bool true) rfl rfl ?_
      exact ⟨rfl, hE90⟩

end Go.Proofs.YtegpcbckiehleaaDoor
