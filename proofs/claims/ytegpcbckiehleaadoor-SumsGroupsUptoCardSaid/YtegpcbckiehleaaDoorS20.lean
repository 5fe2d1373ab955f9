import Derived.Test.YtegpcbckiehleaaDoorS19
namespace Go.Proofs.YtegpcbckiehleaaDoor
open Go.RowKit Go.Eng Go.OrdPure Go.Flt
theorem T.cf14 : CF Tryd.prog 14 := fun _ _ => by kernel_rfl
theorem T.cf17 : CF Tryd.prog 17 := fun _ _ => by kernel_rfl

set_option maxHeartbeats 4000000 in
theorem groups4 (pr : ByteArray) (ar : Int) (L : List Row) (va : Value) (ls : List Int) (vb : Value) (c : Int) (w0 : World) (ha : Src w0.heap va L.length 1 (flat enR L)) (hL : RowsP w0.heap L) (hb : Src w0.heap vb ls.length 1 (flat enI ls)) (hn : L.length ≤ 1048576) (hw : ∀ x ∈ L, x.2.length ≤ 4398046511104) (hwk : ls.length ≤ 1048576) (hsz : SizeL L) (hT : Laid w0) : Calls Tryd.prog 4 #[.agg #[.string pr, .int .i64 ar, va], .int .i64 c, vb] w0 fun e w' => e = .returned (.bool true) ∧ Ext w0 w' := by
  have hE0 : Below w0.heap.size w0 w0 := Below.refl _ _
  have hz0 := hE0.le
  obtain ⟨a, ca, rfl, hca, hca1⟩ := ha.form
  obtain ⟨b, cb, rfl, hcb, hcb1⟩ := hb.form
  refine enter Tryd.func4 rfl 140 Tryd.ntmps4 rfl ?_
  refine seqK fun Q1 kn2 kr3 ke4 => ?_
  refine region ?_
  refine st_e (e_box (v := .agg #[.string pr, .int .i64 ar, .slice a L.length ca]) rfl ?_)
  intro w5 hA6
  have hx7 := hA6.ext
  have hs8 := hA6.size
  have hB9 : Blk w5.heap w0.heap.size [.string pr, .int .i64 ar, .slice a L.length ca] 29 := hA6.new
  have hE10 : Below w0.heap.size w0 w5 := hx7.e hE0 (Nat.le_refl _)
  have hz11 := hE10.le
  have hs12 := hx7.size
  refine st_q (v := .bool false) (x_assign rfl) ?_
  refine st_nil ?_
  refine kn2 _ _ ?_
  refine seqK fun Q13 kn14 kr15 ke16 => ?_
  refine region ?_
  refine st_q (v := .agg #[.string pr, .int .i64 ar, .slice a L.length ca]) (x_loadA [.string pr, .int .i64 ar, .slice a L.length ca] T.ag29 rfl (hB9.cells 0 [.string pr, .int .i64 ar, .slice a L.length ca] (cells_at rfl))) ?_
  refine st_c (t_call [.agg #[.string pr, .int .i64 ar, .slice a L.length ca]] T.cf12 rfl rfl) (lent12 pr ar L _ _ (ha.below hE10) (RowsP.below hL hE10) hn hw) ?_
  rintro _ w17 ⟨am, cm, M, rfl, hx18, hMP, hLt⟩
  refine ⟨_, rfl, ?_⟩
  have hB19 := hB9.ext hx18
  have hE20 : Below w0.heap.size w0 w17 := hx18.e hE10 (Nat.le_refl _)
  have hz21 := hE20.le
  have hs22 := hx18.size
  have hszM := size_tp hMP hsz
  have hMl := len_tp hMP
  have hLM : Ext w17 w17 := Below.refl _ _
  refine st_e (e_alloc T.zv29 ?_)
  intro w23 hA24
  have hx25 := hA24.ext
  have hs26 := hA24.size
  have hB27 : Blk w23.heap w17.heap.size [.string ByteArray.empty, .int .i64 ((0 : Nat) : Int), .slice none 0 0] 29 := hA24.new
  have hB28 := hB19.ext hx25
  have hF29 := hx25.e hLM (Nat.le_refl _)
  have hE30 : Below w0.heap.size w0 w23 := hx25.e hE20 (Nat.le_refl _)
  have hz31 := hE30.le
  have hs32 := hx25.size
  refine st_s (e_st (v := .agg #[.string pr, .int .i64 ar, .slice am M.length cm]) T.sz29 rfl rfl hB27 (by simp [Value.cells]) (by rfl) ?_)
  intro w33 hP34
  have hB35 : Blk w33.heap w17.heap.size [.string pr, .int .i64 ar, .slice am M.length cm] 29 := hP34.new
  have hs36 := hP34.size
  have hB37 := hB28.pt hP34 (by omega)
  have hF38 := hP34.below hF29 (by omega)
  have hE39 : Below w0.heap.size w0 w33 := hP34.below hE30 (by omega)
  have hz40 := hE39.le
  refine st_nil ?_
  refine kn14 _ _ ?_
  refine seqK fun Q41 kn42 kr43 ke44 => ?_
  refine region ?_
  refine st_q (v := .slice b ls.length cb) (x_move rfl) ?_
  have hLLl : (ls ++ [(-77 : Int)]).length = ls.length + 1 := by simp
  refine st_e (e_append0 (lo := w17.heap.size) T.sl30 rfl rfl (hb.below hE39) (ones (by exact flat_onesI)) (by omega) (by decide) (by omega) ?_)
  intro v45 w46 hO47 hG48 hN49
  have hB50 := hB37.ext hG48
  have hB51 := hB35.ext hG48
  have hF52 := hG48.e hF38 (Nat.le_refl _)
  have hE53 : Below w0.heap.size w0 w46 := hG48.e hE39 (Nat.le_refl _)
  have hz54 := hE53.le
  have hs55 := hG48.size
  obtain ⟨a56, c57, rfl, hm58, hm59⟩ := hO47.src.form
  refine st_e (e_buildSlice (cs := [.int .i64 (-77)]) (e := 3) (fun _ => by kernel_rfl) ?_)
  intro w60 hA61
  have hx62 := hA61.ext
  have hs63 := hA61.size
  have hB64 : Blk w60.heap w46.heap.size [.int .i64 (-77)] 3 := hA61.new
  have hB65 := hB50.ext hx62
  have hB66 := hB51.ext hx62
  have hF67 := hx62.e hF52 (Nat.le_refl _)
  have hF68 := hO47.ext hx62
  have hE69 : Below w0.heap.size w0 w60 := hx62.e hE53 (Nat.le_refl _)
  have hz70 := hE69.le
  have hs71 := hx62.size
  refine st_e (e_appendX T.sl30 rfl rfl hF68 (hB64.src1 (k := 1) (m := 1) rfl (by omega)) (ones (by rfl)) (by omega) (by decide) (by omega) ?_)
  intro v72 w73 hO74 hG75 hN76 hW77
  have hB78 := hB65.gk (hG75) (hF68.rowk) (by decide)
  have hB79 := hB66.gk (hG75) (hF68.rowk) (by decide)
  have hF80 := grown_below hG75 hF67 (Nat.le_refl _) (fun b hb => (by have := (hF68.lt hb).1; clear hb; omega))
  have hE81 : Below w0.heap.size w0 w73 := grown_below hG75 hE69 (Nat.le_refl _) (fun b hb => (by have := (hF68.lt hb).1; clear hb; omega))
  have hz82 := hE81.le
  have hs83 := hG75.size
  have hO84 := Own.snoc (enc := enI) (u := -77) hO74
  obtain ⟨a85, c86, rfl, hm87, hm88⟩ := hO84.src.form
  refine st_q (v := .slice a85 ((ls.length + 1)) c86) (x_assign rfl) ?_
  refine st_nil ?_
  refine kn42 _ _ ?_
  refine seqK fun Q89 kn90 kr91 ke92 => ?_
  refine regionD1 [0] [0, 1, 2, 3, 4, 6, 7, 8, 9, 10] (.one 0 (.one 1 (.one 2 (.one 3 (.one 4 (.one 5 (.one 6 (.one 7 (.one 8 (.one 9 (.one 10 .done))))))))))) (by kernel_rfl) (by kernel_rfl) ?_
  intro w93 hx94 hs95
  have hB96 := hB78.ext hx94
  have hB97 := hB79.ext hx94
  have hF98 := hx94.e hF80 (Nat.le_refl _)
  have hF99 := hO84.ext hx94
  have hE100 : Below w0.heap.size w0 w93 := hx94.e hE81 (Nat.le_refl _)
  have hz101 := hE100.le
  have hs102 := hx94.size
  have hS103 : Ext w93 w93 := Below.refl _ _
  refine d_l (v := .agg #[.string pr, .int .i64 ar, .slice am M.length cm]) rfl rfl rfl (fun v105 hw104 => x_loadA [.string pr, .int .i64 ar, .slice am M.length cm] T.ag29 rfl ((hB97.cells 0 [.string pr, .int .i64 ar, .slice am M.length cm] (cells_at rfl)).ext hw104)) ?_
  refine d_q (v := .slice a85 ((ls.length + 1)) c86) rfl rfl (fun _ => x_move rfl) ?_
  refine d_q (v := .slice b ls.length cb) rfl rfl (fun _ => x_move rfl) ?_
  refine d_q (v := .int .i64 ((ls.length : Nat) : Int)) rfl rfl (fun _ => x_lenSl rfl Tryd.underlying30 rfl) ?_
  refine d_q (v := .slice a85 ls.length c86) rfl rfl (fun _ => x_sliceHi T.sl30 rfl rfl (by omega)) ?_
  refine d_e (by decide) (d_c' rfl rfl (t_call [.agg #[.string pr, .int .i64 ar, .slice am M.length cm], .slice a85 ls.length c86] T.cf13 rfl rfl) (groups13m pr ar L M hMP _ ls _ _ (hLt.ext hF98).src (hLt.ext hF98).rowsP (own_take (n := ls.length + 1) hF99 rfl) (by omega) (by omega)) ?_)
  rintro _ w106 ⟨vA, A, rfl, hx107, hO108, hKA, hGA⟩
  refine ⟨_, rfl, ?_⟩
  have hAl : (A.map toG).length = A.length := List.length_map _
  have hB109 := hB96.ext hx107
  have hB110 := hB97.ext hx107
  have hF111 := hx107.e hF98 (Nat.le_refl _)
  have hF112 := hF99.ext hx107
  have hE113 : Below w0.heap.size w0 w106 := hx107.e hE100 (Nat.le_refl _)
  have hz114 := hE113.le
  have hs115 := hx107.size
  have hS116 := hS103.trans (hx107.mono hS103.size)
  refine ⟨fun _ => hS116, ?_⟩
  obtain ⟨aA, cA, rfl, hcA, hcA1⟩ := hO108.src.form
  have hbA1 : ∀ z, Value.ownBlock (.slice aA A.length cA) = some z → w93.heap.size ≤ z ∧ z < w106.heap.size := fun z e => hO108.lt e
  have hbK1 : ∀ x ∈ A.map (·.1), ∀ z, (rv x).ownBlock = some z → w93.heap.size ≤ z ∧ z < w106.heap.size := fun x hx z e => (hKA.own x hx).lt e
  have hOA := hO108.weak (lo' := w0.heap.size) (by omega)
  have hKA0 := hKA.weak (lo' := w0.heap.size) (by omega)
  have hzU : w0.heap.size ≤ w93.heap.size := by omega
  refine d_q (v := .tuple #[.slice aA A.length cA, .int .i64 ((gE ar ls (tp L)))]) rfl rfl (fun _ => x_move rfl) ?_
  refine d_q (v := .slice aA A.length cA) rfl rfl (fun _ => x_extract rfl rfl) ?_
  refine d_q (v := .int .i64 ((gE ar ls (tp L)))) rfl rfl (fun _ => x_extract rfl rfl) ?_
  refine d_q (v := .slice aA A.length cA) rfl rfl (fun _ => x_assign rfl) ?_
  refine d_q (v := .int .i64 ((gE ar ls (tp L)))) rfl rfl (fun _ => x_assign rfl) ?_
  refine d_done ?_
  refine kn90 _ _ ?_
  refine seqK fun Q117 kn118 kr119 ke120 => ?_
  refine region ?_
  refine st_q (v := .agg #[.string pr, .int .i64 ar, .slice a L.length ca]) (x_loadA [.string pr, .int .i64 ar, .slice a L.length ca] T.ag29 rfl (hB109.cells 0 [.string pr, .int .i64 ar, .slice a L.length ca] (cells_at rfl))) ?_
  refine st_q (v := .slice b ls.length cb) (x_move rfl) ?_
  refine st_c (t_call [.agg #[.string pr, .int .i64 ar, .slice a L.length ca], .int .i64 (-1), .slice b ls.length cb] T.cf14 rfl rfl) (refsums14m pr ar L _ ls _ (-1) _ (ha.below hE113) (RowsP.below hL hE113) (hb.below hE113) (by omega) hsz) ?_
  rintro _ w121 ⟨vB, BB, GB, rfl, hx122, hO123, hWB, hRB⟩
  refine ⟨_, rfl, ?_⟩
  have hB124 := hB109.ext hx122
  have hB125 := hB110.ext hx122
  have hF126 := hx122.e hF111 (Nat.le_refl _)
  have hF127 := hF112.ext hx122
  have hF128 := hOA.ext hx122
  have hF129 := hKA0.ext hx122
  have hE130 : Below w0.heap.size w0 w121 := hx122.e hE113 (Nat.le_refl _)
  have hz131 := hE130.le
  have hs132 := hx122.size
  obtain ⟨aB, cB, rfl, hcB, hcB1⟩ := hO123.src.form
  have hKPB : KeysP w121.heap GB := fun g hg => by obtain ⟨x, hx, e1, e2, e3⟩ := hRB.keys g hg; rw [e1, e2, e3]; exact (hWB.own x hx).src
  refine st_q (v := .tuple #[.slice aB GB.length cB, .int .i64 ((rE ar (-1) ls (tp L)))]) (x_move rfl) ?_
  refine st_q (v := .slice aB GB.length cB) (x_extract rfl rfl) ?_
  refine st_q (v := .int .i64 ((rE ar (-1) ls (tp L)))) (x_extract rfl rfl) ?_
  refine st_q (v := .slice aB GB.length cB) (x_assign rfl) ?_
  refine st_q (v := .int .i64 ((rE ar (-1) ls (tp L)))) (x_assign rfl) ?_
  refine st_nil ?_
  refine kn118 _ _ ?_
  refine seqK fun Q133 kn134 kr135 ke136 => ?_
  refine regionD1 [0] [0, 1, 2, 3, 4, 5, 7, 8, 9, 10, 11] (.one 0 (.one 1 (.one 2 (.one 3 (.one 4 (.one 5 (.one 6 (.one 7 (.one 8 (.one 9 (.one 10 (.one 11 .done)))))))))))) (by kernel_rfl) (by kernel_rfl) ?_
  intro w137 hx138 hs139
  have hB140 := hB124.ext hx138
  have hB141 := hB125.ext hx138
  have hF142 := hx138.e hF126 (Nat.le_refl _)
  have hF143 := hF127.ext hx138
  have hF144 := hF128.ext hx138
  have hF145 := hF129.ext hx138
  have hF146 := hO123.ext hx138
  have hF147 := hKPB.ext hx138
  have hF148 := hWB.ext hx138
  have hE149 : Below w0.heap.size w0 w137 := hx138.e hE130 (Nat.le_refl _)
  have hz150 := hE149.le
  have hs151 := hx138.size
  have hS152 : Ext w137 w137 := Below.refl _ _
  refine d_l (v := .agg #[.string pr, .int .i64 ar, .slice am M.length cm]) rfl rfl rfl (fun v154 hw153 => x_loadA [.string pr, .int .i64 ar, .slice am M.length cm] T.ag29 rfl ((hB141.cells 0 [.string pr, .int .i64 ar, .slice am M.length cm] (cells_at rfl)).ext hw153)) ?_
  refine d_q (v := .int .i64 c) rfl rfl (fun _ => x_move rfl) ?_
  refine d_q (v := .slice a85 ((ls.length + 1)) c86) rfl rfl (fun _ => x_move rfl) ?_
  refine d_q (v := .slice b ls.length cb) rfl rfl (fun _ => x_move rfl) ?_
  refine d_q (v := .int .i64 ((ls.length : Nat) : Int)) rfl rfl (fun _ => x_lenSl rfl Tryd.underlying30 rfl) ?_
  refine d_q (v := .slice a85 ls.length c86) rfl rfl (fun _ => x_sliceHi T.sl30 rfl rfl (by omega)) ?_
  refine d_e (by decide) (d_c' rfl rfl (t_call [.agg #[.string pr, .int .i64 ar, .slice am M.length cm], .int .i64 c, .slice a85 ls.length c86] T.cf15 rfl rfl) (sums15m pr ar L M hMP _ c ls _ _ (hLt.ext hF142).src (hLt.ext hF142).rowsP (own_take (n := ls.length + 1) hF143 rfl) (by omega) (by omega) hszM (hT.below hE149)) ?_)
  rintro _ w155 ⟨vC, AC, GC, rfl, hx156, hO157, hKC, hSC⟩
  refine ⟨_, rfl, ?_⟩
  have hB158 := hB140.ext hx156
  have hB159 := hB141.ext hx156
  have hF160 := hx156.e hF142 (Nat.le_refl _)
  have hF161 := hF143.ext hx156
  have hF162 := hF144.ext hx156
  have hF163 := hF145.ext hx156
  have hF164 := hF146.ext hx156
  have hF165 := hF147.ext hx156
  have hF166 := hF148.ext hx156
  have hE167 : Below w0.heap.size w0 w155 := hx156.e hE149 (Nat.le_refl _)
  have hz168 := hE167.le
  have hs169 := hx156.size
  have hS170 := hS152.trans (hx156.mono hS152.size)
  refine ⟨fun _ => hS170, ?_⟩
  obtain ⟨aC, cC, rfl, hcC, hcC1⟩ := hO157.src.form
  refine d_q (v := .tuple #[.slice aC GC.length cC, .int .i64 ((sE ar c ls (tp L)))]) rfl rfl (fun _ => x_move rfl) ?_
  refine d_q (v := .slice aC GC.length cC) rfl rfl (fun _ => x_extract rfl rfl) ?_
  refine d_q (v := .int .i64 ((sE ar c ls (tp L)))) rfl rfl (fun _ => x_extract rfl rfl) ?_
  refine d_q (v := .slice aC GC.length cC) rfl rfl (fun _ => x_assign rfl) ?_
  refine d_q (v := .int .i64 ((sE ar c ls (tp L)))) rfl rfl (fun _ => x_assign rfl) ?_
  refine d_done ?_
  refine kn134 _ _ ?_
  refine seqK fun Q171 kn172 kr173 ke174 => ?_
  refine region ?_
  refine st_q (v := .agg #[.string pr, .int .i64 ar, .slice a L.length ca]) (x_loadA [.string pr, .int .i64 ar, .slice a L.length ca] T.ag29 rfl (hB158.cells 0 [.string pr, .int .i64 ar, .slice a L.length ca] (cells_at rfl))) ?_
  refine st_q (v := .int .i64 c) (x_move rfl) ?_
  refine st_q (v := .slice b ls.length cb) (x_move rfl) ?_
  refine st_c (t_call [.agg #[.string pr, .int .i64 ar, .slice a L.length ca], .int .i64 c, .slice b ls.length cb] T.cf14 rfl rfl) (refsums14m pr ar L _ ls _ c _ (ha.below hE167) (RowsP.below hL hE167) (hb.below hE167) (by omega) hsz) ?_
  rintro _ w175 ⟨vD, BD, GD, rfl, hx176, hO177, hWD, hRD⟩
  refine ⟨_, rfl, ?_⟩
  have hB178 := hB158.ext hx176
  have hB179 := hB159.ext hx176
  have hF180 := hx176.e hF160 (Nat.le_refl _)
  have hF181 := hF161.ext hx176
  have hF182 := hF162.ext hx176
  have hF183 := hF163.ext hx176
  have hF184 := hF164.ext hx176
  have hF185 := hF165.ext hx176
  have hF186 := hF166.ext hx176
  have hF187 := hO157.ext hx176
  have hF188 := hKC.ext hx176
  have hE189 : Below w0.heap.size w0 w175 := hx176.e hE167 (Nat.le_refl _)
  have hz190 := hE189.le
  have hs191 := hx176.size
  obtain ⟨aD, cD, rfl, hcD, hcD1⟩ := hO177.src.form
  have hKPD : KeysP w175.heap GD := fun g hg => by obtain ⟨x, hx, e1, e2, e3⟩ := hRD.keys g hg; rw [e1, e2, e3]; exact (hWD.own x hx).src
  refine st_q (v := .tuple #[.slice aD GD.length cD, .int .i64 ((rE ar c ls (tp L)))]) (x_move rfl) ?_
  refine st_q (v := .slice aD GD.length cD) (x_extract rfl rfl) ?_
  refine st_q (v := .int .i64 ((rE ar c ls (tp L)))) (x_extract rfl rfl) ?_
  refine st_q (v := .slice aD GD.length cD) (x_assign rfl) ?_
  refine st_q (v := .int .i64 ((rE ar c ls (tp L)))) (x_assign rfl) ?_
  refine st_nil ?_
  refine kn172 _ _ ?_
  refine seqLK (n := 140) (ds := []) (α := (List Grp) × Int × (Option Addr) × Nat × (List Row)) (fun x => [(2, .slice b ls.length cb), (3, .pointer (some ⟨w0.heap.size, 0, none⟩)), (7, .pointer (some ⟨w17.heap.size, 0, none⟩)), (8, .slice a85 ((ls.length + 1)) c86), (9, .slice aA A.length cA), (10, .int .i64 ((gE ar ls (tp L)))), (11, .slice aB GB.length cB), (12, .int .i64 ((rE ar (-1) ls (tp L)))), (13, .slice aC GC.length cC), (14, .int .i64 ((sE ar c ls (tp L)))), (15, .slice x.2.2.1 x.1.length x.2.2.2.1), (16, .int .i64 x.2.1)]) (fun x w192 => Ext w175 w192 ∧ x.2.1 = sE ar c ls (tp L) ∧ GC.length = x.1.length ∧ (∀ j, j < GC.length → AlikeG (el GC j) (el x.1 j)) ∧ Own w192.heap w155.heap.size 44 8 (.slice x.2.2.1 x.1.length x.2.2.2.1) x.1.length (flat enG x.1) ∧ RowsW w192.heap w155.heap.size x.2.2.2.2 ∧ ∀ g ∈ x.1, ∃ y ∈ x.2.2.2.2, g.q = y.1.1 ∧ g.c = y.1.2 ∧ g.key = y.2) ?_ ?_
  ·
    have hx193 : Ext w175 w175 := Below.refl _ _
    intro Q194 kn195 kr196 ke197
    refine seqK fun Q198 kn199 kr200 ke201 => ?_
    refine region ?_
    refine st_q (v := .int .i64 c) (x_move rfl) ?_
    refine st_q (v := .bool (decide (c = (-1)))) (x_eql rfl rfl) ?_
    refine st_nil ?_
    refine kn199 _ _ ?_
    refine cnd (p := c = (-1)) rfl (fun h202 => ?_) (fun h202 => ?_)
    ·
      refine region ?_
      refine st_q (v := .slice none 0 0) (x_assign rfl) ?_
      refine st_q (v := .int .i64 ((2 : Nat) : Int)) (x_assign rfl) ?_
      refine st_nil ?_
      refine kn195 _ ([], 2, none, 0, []) _ ⟨rfl, rfl, rfl, rfl, rfl, rfl, rfl, rfl, rfl, rfl, rfl, rfl, trivial⟩ ⟨hx193, ?_⟩
      try dsimp only
      have hm := sums_minus (by rw [(by assumption : c = -1)] at hSC; exact hSC)
      exact ⟨by rw [(by assumption : c = -1)]; exact hm.2.symm, by rw [hm.1], fun j hj => by rw [hm.1] at hj; exact absurd hj (by simp), Own.nil _ _ _ _, RowsW.nil _ _, fun g hg => by simp at hg⟩
    ·
      refine skip ?_
      refine kn195 _ (GD, (rE ar c ls (tp L)), aD, cD, BD) _ ⟨rfl, rfl, rfl, rfl, rfl, rfl, rfl, rfl, rfl, rfl, rfl, rfl, trivial⟩ ⟨hx193, ?_⟩
      try dsimp only
      have ha2 := alike_sums hSC hRD (by assumption)
      exact ⟨ha2.2.2.symm, ha2.1, ha2.2.1, hO177, hWD, hRD.keys⟩
  ·
    rintro τ203 ⟨D, dE, aX, cX, KX⟩ w204 ⟨hx205, ⟨hdE, hCD, hCDa, hOX, hWX, hkX⟩⟩
    try dsimp only at hdE hCD hCDa hOX hWX hkX
    have hB206 := hB178.ext hx205
    have hB207 := hB179.ext hx205
    have hF208 := hx205.e hF180 (Nat.le_refl _)
    have hF209 := hF181.ext hx205
    have hF210 := hF182.ext hx205
    have hF211 := hF183.ext hx205
    have hF212 := hF184.ext hx205
    have hF213 := hF185.ext hx205
    have hF214 := hF186.ext hx205
    have hF215 := hF187.ext hx205
    have hF216 := hF188.ext hx205
    have hF217 := hO177.ext hx205
    have hF218 := hKPD.ext hx205
    have hF219 := hWD.ext hx205
    have hE220 : Below w0.heap.size w0 w204 := hx205.e hE189 (Nat.le_refl _)
    have hz221 := hE220.le
    have hs222 := hx205.size
    refine seqK fun Q223 kn224 kr225 ke226 => ?_
    refine seqK fun Q227 kn228 kr229 ke230 => ?_
    refine region ?_
    refine st_q (v := .int .i64 ((gE ar ls (tp L)))) (x_move rfl) ?_
    refine st_c (t_call [.int .i64 ((gE ar ls (tp L)))] T.cf16 rfl rfl) (num16 ((gE ar ls (tp L))) _) ?_
    rintro _ _ ⟨rfl, rfl⟩
    refine ⟨_, rfl, ?_⟩
    refine st_q (v := .int .i64 ((rE ar (-1) ls (tp L)))) (x_move rfl) ?_
    refine st_q (v := .bool (decide (((gE ar ls (tp L))) ≠ ((rE ar (-1) ls (tp L)))))) (x_neq rfl rfl) ?_
    refine st_if (p := ((gE ar ls (tp L))) ≠ ((rE ar (-1) ls (tp L)))) (x_move rfl) (fun h231 => ?_) (fun h231 => ?_)
    ·
      exact absurd h231 (not_not_intro (alike_groups hGA hRB).2.2)
    ·
      refine st_gq 4 63 rfl rfl (by decide) ?_
      refine st_q (v := .slice aA A.length cA) (x_move rfl) ?_
      refine st_gq 4 63 rfl rfl (by decide) ?_
      refine st_q (v := .slice aB GB.length cB) (x_move rfl) ?_
      refine st_gq 4 63 rfl rfl (by decide) ?_
      have hal := alike_groups hGA hRB
      refine st_c (t_call [.slice aA A.length cA, .slice aB GB.length cB] T.cf17 rfl rfl) (same17 (A.map toG) GB _ _ _ (by rw [hAl]; exact hF210.src) hF212.src (show KeysP _ (A.map toG) from fun g hg => by obtain ⟨x, hx, rfl⟩ := List.mem_map.1 hg; exact (hF211.own x.1 (List.mem_map_of_mem hx)).src) hF213 hal.1 hal.2.1) ?_
      rintro _ w232 ⟨rfl, hx233⟩
      refine ⟨_, rfl, ?_⟩
      have hB234 := hB206.ext hx233
      have hB235 := hB207.ext hx233
      have hF236 := hx233.e hF208 (Nat.le_refl _)
      have hF237 := hF209.ext hx233
      have hF238 := hF210.ext hx233
      have hF239 := hF211.ext hx233
      have hF240 := hF212.ext hx233
      have hF241 := hF213.ext hx233
      have hF242 := hF214.ext hx233
      have hF243 := hF215.ext hx233
      have hF244 := hF216.ext hx233
      have hF245 := hOX.ext hx233
      have hF246 := hWX.ext hx233
      have hE247 : Below w0.heap.size w0 w232 := hx233.e hE220 (Nat.le_refl _)
      have hz248 := hE247.le
      have hs249 := hx233.size
      refine st_gq 4 63 rfl rfl (by decide) ?_
      refine st_q (v := .bool false) (x_notB (b := true) rfl) ?_
      refine st_q (v := .bool false) (x_pickF rfl rfl) ?_
      refine st_q (v := .bool false) (x_move rfl) ?_
      refine st_gq 10 69 rfl rfl (by decide) ?_
      refine st_q (v := .int .i64 ((sE ar c ls (tp L)))) (x_move rfl) ?_
      refine st_gq 10 69 rfl rfl (by decide) ?_
      refine st_c (t_call [.int .i64 ((sE ar c ls (tp L)))] T.cf16 rfl rfl) (num16 ((sE ar c ls (tp L))) _) ?_
      rintro _ _ ⟨rfl, rfl⟩
      refine ⟨_, rfl, ?_⟩
      refine st_gq 10 69 rfl rfl (by decide) ?_
      refine st_q (v := .int .i64 dE) (x_move rfl) ?_
      refine st_gq 10 69 rfl rfl (by decide) ?_
      refine st_q (v := .bool (decide (((sE ar c ls (tp L))) ≠ dE))) (x_neq rfl rfl) ?_
      refine st_q (v := .bool (decide (((sE ar c ls (tp L))) ≠ dE))) (x_pickF rfl rfl) ?_
      refine st_if (p := ((sE ar c ls (tp L))) ≠ dE) (x_move rfl) (fun h250 => ?_) (fun h250 => ?_)
      ·
        exact absurd h250 (not_not_intro hdE.symm)
      ·
        refine st_gq 16 75 rfl rfl (by decide) ?_
        refine st_q (v := .slice aC GC.length cC) (x_move rfl) ?_
        refine st_gq 16 75 rfl rfl (by decide) ?_
        refine st_q (v := .slice aX D.length cX) (x_move rfl) ?_
        refine st_gq 16 75 rfl rfl (by decide) ?_
        refine st_c (t_call [.slice aC GC.length cC, .slice aX D.length cX] T.cf17 rfl rfl) (same17 GC D _ _ _ hF243.src hF245.src (show KeysP _ GC from fun g hg => by obtain ⟨x, hx, e1, e2, e3⟩ := hSC.keys g hg; rw [e1, e2, e3]; exact (hF244.own x hx).src) (show KeysP _ D from fun g hg => by obtain ⟨x, hx, e1, e2, e3⟩ := hkX g hg; rw [e1, e2, e3]; exact (hF246.own x hx).src) hCD hCDa) ?_
        rintro _ w251 ⟨rfl, hx252⟩
        refine ⟨_, rfl, ?_⟩
        have hB253 := hB234.ext hx252
        have hB254 := hB235.ext hx252
        have hF255 := hx252.e hF236 (Nat.le_refl _)
        have hF256 := hF237.ext hx252
        have hF257 := hF238.ext hx252
        have hF258 := hF239.ext hx252
        have hF259 := hF240.ext hx252
        have hF260 := hF241.ext hx252
        have hF261 := hF242.ext hx252
        have hF262 := hF243.ext hx252
        have hF263 := hF244.ext hx252
        have hF264 := hF245.ext hx252
        have hF265 := hF246.ext hx252
        have hE266 : Below w0.heap.size w0 w251 := hx252.e hE247 (Nat.le_refl _)
        have hz267 := hE266.le
        have hs268 := hx252.size
        refine st_gq 16 75 rfl rfl (by decide) ?_
        refine st_q (v := .bool false) (x_notB (b := true) rfl) ?_
        refine st_q (v := .bool false) (x_pickF rfl rfl) ?_
        refine st_q (v := .bool false) (x_move rfl) ?_
        refine st_gq 22 81 rfl rfl (by decide) ?_
        refine st_q (v := .agg #[.string pr, .int .i64 ar, .slice am M.length cm]) (x_loadA [.string pr, .int .i64 ar, .slice am M.length cm] T.ag29 rfl (hB254.cells 0 [.string pr, .int .i64 ar, .slice am M.length cm] (cells_at rfl))) ?_
        refine st_gq 22 81 rfl rfl (by decide) ?_
        refine st_q (v := .agg #[.string pr, .int .i64 ar, .slice a L.length ca]) (x_loadA [.string pr, .int .i64 ar, .slice a L.length ca] T.ag29 rfl (hB253.cells 0 [.string pr, .int .i64 ar, .slice a L.length ca] (cells_at rfl))) ?_
        refine st_gq 22 81 rfl rfl (by decide) ?_
        refine st_c (t_call [.agg #[.string pr, .int .i64 ar, .slice am M.length cm], .agg #[.string pr, .int .i64 ar, .slice a L.length ca]] T.cf18 rfl rfl) (left18 pr ar L M _ am cm _ (ha.below hE266) (RowsP.below hL hE266) (hLt.ext hF255) hMP hn) ?_
        rintro _ w269 ⟨rfl, hx270⟩
        refine ⟨_, rfl, ?_⟩
        have hB271 := hB253.ext hx270
        have hB272 := hB254.ext hx270
        have hF273 := hx270.e hF255 (Nat.le_refl _)
        have hF274 := hF256.ext hx270
        have hF275 := hF257.ext hx270
        have hF276 := hF258.ext hx270
        have hF277 := hF259.ext hx270
        have hF278 := hF260.ext hx270
        have hF279 := hF261.ext hx270
        have hF280 := hF262.ext hx270
        have hF281 := hF263.ext hx270
        have hF282 := hF264.ext hx270
        have hF283 := hF265.ext hx270
        have hE284 : Below w0.heap.size w0 w269 := hx270.e hE266 (Nat.le_refl _)
        have hz285 := hE284.le
        have hs286 := hx270.size
        refine st_gq 22 81 rfl rfl (by decide) ?_
        refine st_q (v := .bool false) (x_notB (b := true) rfl) ?_
        refine st_q (v := .bool false) (x_pickF rfl rfl) ?_
        refine st_q (v := .bool false) (x_move rfl) ?_
        refine st_gq 28 87 rfl rfl (by decide) ?_
        refine st_q (v := .slice a85 ((ls.length + 1)) c86) (x_move rfl) ?_
        refine st_gq 28 87 rfl rfl (by decide) ?_
        refine st_q (v := .slice b ls.length cb) (x_move rfl) ?_
        refine st_gq 28 87 rfl rfl (by decide) ?_
        refine st_q (v := .int .i64 ((ls.length : Nat) : Int)) (x_lenSl rfl Tryd.underlying30 rfl) ?_
        refine st_gq 28 87 rfl rfl (by decide) ?_
        obtain ⟨b287, o288, ha289, hc290⟩ := hF274.src.at (by omega)
        refine st_q (v := .pointer (some ⟨b287, o288 + ls.length * 1, none⟩)) (x_index' T.sl30 rfl ha289 rfl (by omega)) ?_
        refine st_gq 28 87 rfl rfl (by decide) ?_
        refine st_q (v := .int .i64 ((el (ls ++ [-77]) ls.length))) (x_load1 T.na3 rfl (hc290.elem enI_len (i := ls.length) (by omega))) ?_
        refine st_gq 28 87 rfl rfl (by decide) ?_
        refine st_q (v := .bool (decide (((el (ls ++ [-77]) ls.length)) ≠ (-77)))) (x_neq rfl rfl) ?_
        refine st_q (v := .bool (decide (((el (ls ++ [-77]) ls.length)) ≠ (-77)))) (x_pickF rfl rfl) ?_
        refine st_nil ?_
        refine kn228 _ _ ?_
        refine cnd (p := ((el (ls ++ [-77]) ls.length)) ≠ (-77)) rfl (fun h291 => ?_) (fun h291 => ?_)
        ·
          exact absurd h291 (not_not_intro (el_snoc_last ls (-77)))
        ·
          refine skip ?_
          refine kn224 _ _ ?_
          refine seqK fun Q292 kn293 kr294 ke295 => ?_
          refine seqK fun Q296 kn297 kr298 ke299 => ?_
          refine region ?_
          refine st_q (v := .int .i64 ((0 : Nat) : Int)) (x_assign rfl) ?_
          refine st_nil ?_
          refine kn297 _ _ ?_
          refine blockK fun Q300 kn301 kr302 kx303 kb304 => ?_
          have hEB := hE284
          have hzB := hEB.le
          have hEM := hF273
          have hKA1 := hF276
          have hOA1 := hF275
          have hC1 := hF280
          have hKC1 := hF281
          have hX1 := hF282
          have hWX1 := hF283
          have hB3 := hB271
          have hB7 := hB272
          have hzM : w17.heap.size ≤ w93.heap.size := by omega
          have hz37 : w0.heap.size < w93.heap.size ∧ w17.heap.size < w93.heap.size := by omega
          have hzU1 : w106.heap.size ≤ w137.heap.size ∧ w106.heap.size ≤ w155.heap.size := by omega
          have hzUB : w93.heap.size ≤ w269.heap.size := by omega
          have hM305 : Mod (fun z => w93.heap.size ≤ z ∧ z < w106.heap.size) w269 w269 := Mod.refl _ _
          have hz306 := hM305.le
          refine loopK (α := Nat × (List Grp)) (fun x => [(3, .pointer (some ⟨w0.heap.size, 0, none⟩)), (7, .pointer (some ⟨w17.heap.size, 0, none⟩)), (9, .slice aA A.length cA), (13, .slice aC GC.length cC), (15, .slice aX D.length cX), (17, .int .i64 ((x.1 : Nat) : Int))]) (fun x w307 => Mod (fun z => w93.heap.size ≤ z ∧ z < w106.heap.size) w269 w307 ∧ x.1 ≤ A.length ∧ x.2.length = A.length ∧ Own w307.heap w0.heap.size 44 8 (.slice aA A.length cA) A.length (flat enG x.2) ∧ (∀ j, x.1 ≤ j → j < A.length → el x.2 j = toG (el A j)) ∧ KOK w307.heap w0.heap.size ((A.map (·.1)).drop x.1)) (fun x => A.length - x.1) (0, (A.map toG)) ⟨rfl, rfl, rfl, rfl, rfl, rfl, trivial⟩ ?_ ?_
          ·
            refine ⟨hM305, ?_⟩
            try dsimp only
            exact ⟨Nat.zero_le _, hAl, hOA1, fun j _ h => el_map h, hKA1⟩
          ·
            rintro τ308 ⟨i, F⟩ w309 ⟨hx310, ⟨hi, hFl, hOF, hFe, hKr⟩⟩
            try dsimp only at hi hFl hOF hFe hKr
            have hz311 := hx310.le
            intro Q312 kn313 kr314 ke315
            refine seqK fun Q316 kn317 kr318 ke319 => ?_
            refine seqK fun Q320 kn321 kr322 ke323 => ?_
            refine region ?_
            refine st_q (v := .int .i64 ((i : Nat) : Int)) (x_move rfl) ?_
            refine st_q (v := .slice aA A.length cA) (x_move rfl) ?_
            refine st_q (v := .int .i64 ((A.length : Nat) : Int)) (x_lenSl rfl Tryd.underlying32 rfl) ?_
            refine st_q (v := .bool (decide (i < A.length))) (x_lssN rfl rfl) ?_
            refine st_nil ?_
            refine kn321 _ _ ?_
            refine cnd (p := i < A.length) rfl (fun h324 => ?_) (fun h324 => ?_)
            ·
              refine skip ?_
              refine kn317 _ _ ?_
              refine seqK fun Q325 kn326 kr327 ke328 => ?_
              refine blockK fun Q329 kn330 kr331 kx332 kb333 => ?_
              refine seqK fun Q334 kn335 kr336 ke337 => ?_
              refine seqK fun Q338 kn339 kr340 ke341 => ?_
              refine region ?_
              have hdr : ((A.map (·.1)).drop i) = (el A i).1 :: ((A.map (·.1)).drop (i + 1)) := by rw [drop_el (by rw [List.length_map]; omega), el_map (by omega)]
              rw [hdr] at hKr
              have hiK : (el A i).1 ∈ A.map (·.1) := List.mem_map_of_mem (el_mem' (by omega))
              have hFi := hFe i (Nat.le_refl _) (by omega)
              have hKi := hKr.own _ (List.mem_cons_self ..)
              have hKc := (show Src _ (.slice (el A i).1.1.1 (el A i).1.2.length (el A i).1.1.2) _ _ _ from hKi.src).capl
              have hKn := hGA.len _ (el_mem' (i := i) (by omega))
              obtain ⟨hKt, hAPs⟩ := hKr.tail
              refine st_q (v := .int .i64 ((0 : Nat) : Int)) (x_assign rfl) ?_
              refine st_nil ?_
              refine kn339 _ _ ?_
              refine blockK fun Q342 kn343 kr344 kx345 kb346 => ?_
              refine loopK (α := Nat × (List ByteArray)) (fun x => [(3, .pointer (some ⟨w0.heap.size, 0, none⟩)), (7, .pointer (some ⟨w17.heap.size, 0, none⟩)), (9, .slice aA A.length cA), (13, .slice aC GC.length cC), (15, .slice aX D.length cX), (17, .int .i64 ((i : Nat) : Int)), (18, .int .i64 ((x.1 : Nat) : Int))]) (fun x w347 => Mod (fun z => w93.heap.size ≤ z ∧ z < w106.heap.size) w269 w347 ∧ (x.1 ≤ (el A i).1.2.length ∧ x.2.length = (el A i).1.2.length ∧ Own w347.heap w0.heap.size 9 1 (.slice (el A i).1.1.1 (el A i).1.2.length (el A i).1.1.2) (el A i).1.2.length (flat enS x.2)) ∧ Own w347.heap w0.heap.size 44 8 (.slice aA A.length cA) A.length (flat enG F) ∧ KOK w347.heap w0.heap.size ((A.map (·.1)).drop (i + 1))) (fun x => (el A i).1.2.length - x.1) (0, (el A i).1.2) ⟨rfl, rfl, rfl, rfl, rfl, rfl, rfl, trivial⟩ ?_ ?_
              ·
                refine ⟨hx310, ?_⟩
                try dsimp only
                refine ⟨?_, hOF, hKt⟩
                exact ⟨Nat.zero_le _, rfl, hKi⟩
              ·
                rintro τ348 ⟨k, X⟩ w349 ⟨hx352, ⟨⟨hk, hXl, hOX2⟩, hC350, hC351⟩⟩
                try dsimp only at hk hXl hOX2 hC350 hC351
                have hz353 := hx352.le
                intro Q354 kn355 kr356 ke357
                refine seqK fun Q358 kn359 kr360 ke361 => ?_
                refine seqK fun Q362 kn363 kr364 ke365 => ?_
                refine region ?_
                refine st_q (v := .int .i64 ((k : Nat) : Int)) (x_move rfl) ?_
                refine st_q (v := .slice aA A.length cA) (x_move rfl) ?_
                refine st_q (v := .int .i64 ((i : Nat) : Int)) (x_move rfl) ?_
                obtain ⟨b366, o367, ha368, hc369⟩ := hC350.src.at (by omega)
                refine st_q (v := .pointer (some ⟨b366, o367 + i * 8, none⟩)) (x_index' T.sl32 rfl ha368 rfl (by omega)) ?_
                refine st_q (v := .pointer (some ⟨b366, o367 + i * 8, none⟩)) (x_field (o := o367 + i * 8) T.fa44_0 rfl) ?_
                refine st_q (v := .slice ((el A i).1.1.1) ((el A i).1.2.length) ((el A i).1.1.2)) (x_load1 T.na42 rfl (Cells.conv ((hc369.elem enG_len (i := i) (by omega)).fld 0 rfl) (by rw [hFi]; rfl))) ?_
                refine st_q (v := .int .i64 (((el A i).1.2.length : Nat) : Int)) (x_lenSl rfl Tryd.underlying42 rfl) ?_
                refine st_q (v := .bool (decide (k < ((el A i).1.2.length)))) (x_lssN rfl rfl) ?_
                refine st_nil ?_
                refine kn363 _ _ ?_
                refine cnd (p := k < ((el A i).1.2.length)) rfl (fun h370 => ?_) (fun h370 => ?_)
                ·
                  refine skip ?_
                  refine kn359 _ _ ?_
                  refine seqK fun Q371 kn372 kr373 ke374 => ?_
                  refine blockK fun Q375 kn376 kr377 kx378 kb379 => ?_
                  refine region ?_
                  obtain ⟨bK, cK1, eK, hcK, hOBK⟩ := hOX2.ob (fun e => by injection e with _ e2 _; omega)
                  injection eK with eK1 eK2 eK3
                  have hl380 := hOBK.lo
                  have hl381 := hOBK.lt
                  refine st_q (v := .slice aA A.length cA) (x_move rfl) ?_
                  refine st_q (v := .int .i64 ((i : Nat) : Int)) (x_move rfl) ?_
                  obtain ⟨b382, o383, ha384, hc385⟩ := hC350.src.at (by omega)
                  refine st_q (v := .pointer (some ⟨b382, o383 + i * 8, none⟩)) (x_index' T.sl32 rfl ha384 rfl (by omega)) ?_
                  refine st_q (v := .pointer (some ⟨b382, o383 + i * 8, none⟩)) (x_field (o := o383 + i * 8) T.fa44_0 rfl) ?_
                  refine st_q (v := .slice ((el A i).1.1.1) ((el A i).1.2.length) ((el A i).1.1.2)) (x_load1 T.na42 rfl (Cells.conv ((hc385.elem enG_len (i := i) (by omega)).fld 0 rfl) (by rw [hFi]; rfl))) ?_
                  refine st_q (v := .int .i64 ((k : Nat) : Int)) (x_move rfl) ?_
                  refine st_q (v := .pointer (some ⟨bK, 0 + k * 1, none⟩)) (x_index' T.sl42 rfl eK1 rfl (by omega)) ?_
                  refine st_s (e_stO (v := .string ((ByteArray.mk #[120]))) (u := (ByteArray.mk #[120])) enS_len T.sz9 rfl rfl rfl hOBK (by first | omega | (rw [List.length_set]; omega)) (by rfl) ?_)
                  intro w386 _ hP387 hB388
                  have hs389 := hP387.size
                  have hF390 := hC350.gk (hP387.grownBy) (hOBK.rowk) (by decide)
                  have hF391 := hC351.pt hP387 (fun x hx e => hAPs x hx bK (by show Value.ownBlock (.slice _ _ _) = _; rw [eK1]; rfl) e)
                  have hE394 : Mod (fun z => w93.heap.size ≤ z ∧ z < w106.heap.size) w269 w386 := hx352.pt hP387 (.inl (hbK1 (el A i).1 hiK bK (by show Value.ownBlock (.slice _ _ _) = _; rw [eK1]; rfl)))
                  have hz395 := hE394.le
                  refine st_nil ?_
                  refine kn376 _ _ ?_
                  refine kn372 _ _ ?_
                  refine region ?_
                  refine st_q (v := .int .i64 ((k : Nat) : Int)) (x_move rfl) ?_
                  refine st_q (v := .int .i64 (((k + 1) : Nat) : Int)) (x_addN rfl rfl (by omega)) ?_
                  refine st_q (v := .int .i64 (((k + 1) : Nat) : Int)) (x_assign rfl) ?_
                  refine st_nil ?_
                  refine kn355 _ ((k + 1), (X.set k ((ByteArray.mk #[120])))) _ ⟨rfl, rfl, rfl, rfl, rfl, rfl, rfl, trivial⟩ ⟨hE394, ?_⟩ ?_
                  ·
                    try dsimp only
                    refine ⟨?_, hF390, hF391⟩
                    exact ⟨by omega, by rw [List.length_set]; exact hXl, by rw [eK1, eK3]; exact hB388.own (by omega) (by rw [flat_length enS_len]; simp only [List.length_set]; omega)⟩
                  ·
                    (try dsimp only); omega
                ·
                  refine exit ?_
                  refine ke361 _ _ _ ?_
                  refine ke357 _ _ _ ?_
                  refine kb346 _ _ ?_
                  refine kn335 _ _ ?_
                  refine region ?_
                  refine st_q (v := .slice aA A.length cA) (x_move rfl) ?_
                  refine st_q (v := .int .i64 ((i : Nat) : Int)) (x_move rfl) ?_
                  refine st_q (v := .slice aA A.length cA) (x_move rfl) ?_
                  refine st_q (v := .int .i64 ((i : Nat) : Int)) (x_move rfl) ?_
                  obtain ⟨b396, o397, ha398, hc399⟩ := hC350.src.at (by omega)
                  refine st_q (v := .pointer (some ⟨b396, o397 + i * 8, none⟩)) (x_index' T.sl32 rfl ha398 rfl (by omega)) ?_
                  refine st_q (v := .pointer (some ⟨b396, o397 + i * 8, none⟩)) (x_field (o := o397 + i * 8) T.fa44_0 rfl) ?_
                  refine st_q (v := .slice ((el A i).1.1.1) ((el A i).1.2.length) ((el A i).1.1.2)) (x_load1 T.na42 rfl (Cells.conv ((hc399.elem enG_len (i := i) (by omega)).fld 0 rfl) (by rw [hFi]; rfl))) ?_
                  refine st_e (e_buildSlice (cs := [.string ((ByteArray.mk #[120])), .string ((ByteArray.mk #[120]))]) (e := 9) (fun _ => by kernel_rfl) ?_)
                  intro w400 hA401
                  have hx402 := hA401.ext
                  have hs403 := hA401.size
                  have hB404 : Blk w400.heap w349.heap.size [.string ((ByteArray.mk #[120])), .string ((ByteArray.mk #[120]))] 9 := hA401.new
                  have hF405 := hC350.ext hx402
                  have hF406 := hC351.ext hx402
                  have hF407 := hc369.ext hx402
                  have hF408 := hOX2.ext hx402
                  have hF409 := hc399.ext hx402
                  have hE410 : Mod (fun z => w93.heap.size ≤ z ∧ z < w106.heap.size) w269 w400 := hx352.ext hx402
                  have hz411 := hE410.le
                  have hs412 := hx402.size
                  refine st_e (e_appendX T.sl42 rfl rfl hF408 (hB404.src1 (k := 1) (m := 2) rfl (by omega)) (ones (by rfl)) (by omega) (by decide) (by omega) ?_)
                  intro v413 w414 hO415 hG416 hN417 hW418
                  have hF419 := hF405.gk (hG416) (hF408.rowk) (by decide)
                  have hF420 := hF406.grown hG416 (fun x hx z h1 h2 => hAPs x hx z h2 h1)
                  have hE423 : Mod (fun z => w93.heap.size ≤ z ∧ z < w106.heap.size) w269 w414 := hE410.grown hG416 (fun b hb => .inl (hbK1 (el A i).1 hiK b hb))
                  have hz424 := hE423.le
                  have hs425 := hG416.size
                  have hO426 := Own.app (enc := enS) (ys := [(ByteArray.mk #[120]), (ByteArray.mk #[120])]) hO415
                  obtain ⟨a427, c428, rfl, hm429, hm430⟩ := hO426.src.form
                  obtain ⟨Y, hY⟩ : ∃ Y, Y = (X ++ [(ByteArray.mk #[120]), (ByteArray.mk #[120])]) := ⟨_, rfl⟩
                  have hYl : (el A i).1.2.length + 2 = Y.length := by rw [hY]; simp [hXl]
                  have hO431 := hO426
                  rw [← hY, hYl] at hO431
                  obtain ⟨bN, cN1, eN, hcN1, hOBN⟩ := hF419.ob (fun e => by injection e with _ e2 _; omega)
                  injection eN with eN1 eN2 eN3
                  have hl432 := hOBN.lo
                  have hl433 := hOBN.lt
                  have hvv : (Value.slice a427 ((el A i).1.2.length + 2) c428) = .slice a427 Y.length c428 := by rw [hYl]
                  refine st_q (v := .pointer (some ⟨bN, 0 + i * 8, none⟩)) (x_index' T.sl32 rfl eN1 rfl (by omega)) ?_
                  refine st_q (v := .pointer (some ⟨bN, 0 + i * 8, none⟩)) (x_field (o := 0 + i * 8) T.fa44_0 rfl) ?_
                  refine st_s (e_stOF (v := .slice a427 Y.length c428) (u := ({ el F i with q := a427, c := c428, key := Y } : Grp)) (i := i) (f := 0) enG_len T.sz42 rfl (Eq.trans rfl hvv) rfl rfl hOBN (by omega) (by decide) (by rfl) ?_)
                  intro w434 _ hP435 hB436
                  have hs437 := hP435.size
                  have hF438 := hF420.gk (hP435.grownBy) (hOBN.rowk) (by decide)
                  have hE439 : Mod (fun z => w93.heap.size ≤ z ∧ z < w106.heap.size) w269 w434 := hE423.pt hP435 (.inl (hbA1 bN (by rw [eN1]; rfl)))
                  have hz440 := hE439.le
                  refine st_nil ?_
                  refine kn330 _ _ ?_
                  refine kn326 _ _ ?_
                  refine region ?_
                  refine st_q (v := .int .i64 ((i : Nat) : Int)) (x_move rfl) ?_
                  refine st_q (v := .int .i64 (((i + 1) : Nat) : Int)) (x_addN rfl rfl (by omega)) ?_
                  refine st_q (v := .int .i64 (((i + 1) : Nat) : Int)) (x_assign rfl) ?_
                  refine st_nil ?_
                  refine kn313 _ ((i + 1), (F.set i ({ el F i with q := a427, c := c428, key := Y } : Grp))) _ ⟨rfl, rfl, rfl, rfl, rfl, rfl, trivial⟩ ⟨hE439, ?_⟩ ?_
                  ·
                    try dsimp only
                    exact ⟨by omega, by rw [List.length_set]; exact hFl, by rw [eN1, eN3]; exact hB436.own (by omega) (by rw [flat_length enG_len, List.length_set]; omega), fun j h1 h2 => by rw [el_set_off (by omega)]; exact hFe j (by omega) h2, hF438⟩
                  ·
                    (try dsimp only); omega
            ·
              refine exit ?_
              refine ke319 _ _ _ ?_
              refine ke315 _ _ _ ?_
              refine kb304 _ _ ?_
              refine kn293 _ _ ?_
              refine seqK fun Q441 kn442 kr443 ke444 => ?_
              refine region ?_
              have hS1 : ∀ z, w106.heap.size ≤ z → ¬ (w93.heap.size ≤ z ∧ z < w106.heap.size) := fun z h h2 => by omega
              have hEF := Below.mod' hEB hx310 (fun i hi => by have := hi.1; omega) (Nat.le_refl _)
              have hEMF : Ext w17 w309 := Below.mod' hEM hx310 (fun i hi => by have := hi.1; omega) (Nat.le_refl _)
              have hC2 := hC1.mod hx310 (fun z hz => hS1 z (by have := (hC1.lt hz).1; omega))
              have hKC2 := hKC1.mod hx310 (fun z h1 _ => hS1 z (by omega))
              have hX2 := hX1.mod hx310 (fun z hz => hS1 z (by have := (hX1.lt hz).1; omega))
              have hWX2 := hWX1.mod hx310 (fun z h1 _ => hS1 z (by omega))
              have hB3F := hB3.mod hx310 (fun h => by have := h.1; omega)
              have hB7F := hB7.mod hx310 (fun h => by have := h.1; omega)
              refine st_q (v := .slice aC GC.length cC) (x_move rfl) ?_
              refine st_q (v := .slice aX D.length cX) (x_move rfl) ?_
              refine st_c (t_call [.slice aC GC.length cC, .slice aX D.length cX] T.cf17 rfl rfl) (same17 GC D _ _ _ hC2.src hX2.src (show KeysP _ GC from fun g hg => by obtain ⟨x, hx, e1, e2, e3⟩ := hSC.keys g hg; rw [e1, e2, e3]; exact (hKC2.own x hx).src) (show KeysP _ D from fun g hg => by obtain ⟨x, hx, e1, e2, e3⟩ := hkX g hg; rw [e1, e2, e3]; exact (hWX2.own x hx).src) hCD hCDa) ?_
              rintro _ w445 ⟨rfl, hx446⟩
              refine ⟨_, rfl, ?_⟩
              have hB447 := hB3F.ext hx446
              have hB448 := hB7F.ext hx446
              have hF449 := hx446.e hEMF (Nat.le_refl _)
              have hF450 := hKC2.ext hx446
              have hF451 := hWX2.ext hx446
              have hF452 := hC2.ext hx446
              have hF453 := hX2.ext hx446
              have hE454 : Below w0.heap.size w0 w445 := hx446.e hEF (Nat.le_refl _)
              have hz455 := hE454.le
              have hs456 := hx446.size
              refine st_q (v := .bool true) (x_move rfl) ?_
              refine st_gq 3 132 rfl rfl (by decide) ?_
              refine st_q (v := .agg #[.string pr, .int .i64 ar, .slice am M.length cm]) (x_loadA [.string pr, .int .i64 ar, .slice am M.length cm] T.ag29 rfl (hB448.cells 0 [.string pr, .int .i64 ar, .slice am M.length cm] (cells_at rfl))) ?_
              refine st_gq 3 132 rfl rfl (by decide) ?_
              refine st_q (v := .agg #[.string pr, .int .i64 ar, .slice a L.length ca]) (x_loadA [.string pr, .int .i64 ar, .slice a L.length ca] T.ag29 rfl (hB447.cells 0 [.string pr, .int .i64 ar, .slice a L.length ca] (cells_at rfl))) ?_
              refine st_gq 3 132 rfl rfl (by decide) ?_
              refine st_c (t_call [.agg #[.string pr, .int .i64 ar, .slice am M.length cm], .agg #[.string pr, .int .i64 ar, .slice a L.length ca]] T.cf18 rfl rfl) (left18 pr ar L M _ am cm _ (ha.below hE454) (RowsP.below hL hE454) (hLt.ext hF449) hMP hn) ?_
              rintro _ w457 ⟨rfl, hx458⟩
              refine ⟨_, rfl, ?_⟩
              have hB459 := hB447.ext hx458
              have hB460 := hB448.ext hx458
              have hF461 := hx458.e hF449 (Nat.le_refl _)
              have hF462 := hF450.ext hx458
              have hF463 := hF451.ext hx458
              have hF464 := hF452.ext hx458
              have hF465 := hF453.ext hx458
              have hE466 : Below w0.heap.size w0 w457 := hx458.e hE454 (Nat.le_refl _)
              have hz467 := hE466.le
              have hs468 := hx458.size
              refine st_q (v := .bool true) (x_pickT rfl rfl) ?_
              refine st_q (v := .bool true) (x_move rfl) ?_
              refine st_gq 8 137 rfl rfl (by decide) ?_
              refine st_c (t_call [] T.cf11 rfl rfl) (known11 _ (hT.below hE466)) ?_
              rintro _ w469 ⟨rfl, hx470⟩
              refine ⟨_, rfl, ?_⟩
              have hB471 := hB459.ext hx470
              have hB472 := hB460.ext hx470
              have hF473 := hx470.e hF461 (Nat.le_refl _)
              have hF474 := hF462.ext hx470
              have hF475 := hF463.ext hx470
              have hF476 := hF464.ext hx470
              have hF477 := hF465.ext hx470
              have hE478 : Below w0.heap.size w0 w469 := hx470.e hE466 (Nat.le_refl _)
              have hz479 := hE478.le
              have hs480 := hx470.size
              refine st_q (v := .bool true) (x_pickT rfl rfl) ?_
              refine st_q (v := .bool true) (x_assign rfl) ?_
              refine st_nil ?_
              refine kn442 _ _ ?_
              refine ret ?_
              refine leave1 (P := Tryd.prog) (fn := Tryd.f4) (t := 6) (v := .bool true) rfl rfl ?_
              exact ⟨rfl, hE478⟩

end Go.Proofs.YtegpcbckiehleaaDoor
