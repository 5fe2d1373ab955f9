import Derived.Test.YtegpcbckiehleaaDoorS23
namespace Go.Proofs.YtegpcbckiehleaaDoor
open Go.RowKit Go.Eng Go.OrdPure Go.Flt
theorem T.cf12 : CF Tryd.prog 12 := fun _ _ => by kernel_rfl
theorem T.cf20 : CF Tryd.prog 20 := fun _ _ => by kernel_rfl
theorem T.cf18 : CF Tryd.prog 18 := fun _ _ => by kernel_rfl
theorem T.cf14 : CF Tryd.prog 14 := fun _ _ => by kernel_rfl
theorem T.cf17 : CF Tryd.prog 17 := fun _ _ => by kernel_rfl
theorem T.cf24 : CF Tryd.prog 24 := fun _ _ => by kernel_rfl
theorem T.cf25 : CF Tryd.prog 25 := fun _ _ => by kernel_rfl
theorem T.cf26 : CF Tryd.prog 26 := fun _ _ => by kernel_rfl
theorem T.cf27 : CF Tryd.prog 27 := fun _ _ => by kernel_rfl
theorem T.fa57_0 : FA Tryd.prog 57 0 0 := fun _ _ => by kernel_rfl

theorem bad_nat2 {ar c : Int} (h : badC ar c = false) : ∃ n : Nat, c = ((n : Nat) : Int) := by
  unfold badC at h
  have h2 := of_decide_eq_false h
  exact ⟨c.toNat, by omega⟩
theorem size_tp2 {L M : List Row} (h : tp M = tp L) (hs : SizeL L) : SizeL M := fun x hx s hm => by
  have h1 : x.2 ∈ tp L := h ▸ List.mem_map_of_mem hx
  obtain ⟨y, hy, e⟩ := List.mem_map.1 h1
  exact hs y hy s (by rw [e]; exact hm)
theorem len_tp2 {L M : List Row} (h : tp M = tp L) : M.length = L.length := by have := congrArg List.length h; rwa [tp_len, tp_len] at this
/-- what Fit and Turn tell -/
def lE (ar c d : Int) (P : List Tup) : Int := if rightB ar P [c, d] then 0 else 2
def lN (ar c d : Int) (P : List Tup) : Int := if rightB ar P [c, d] then (((ptsL c.toNat d.toNat (setL P)).length : Nat) : Int) else 0
def LineR (ar c d : Int) (P : List Tup) (sl st ft : Nat) : Prop := if rightB ar P [c, d] then FitR (ptsL c.toNat d.toNat (setL P)) sl st ft else sl = 0 ∧ st = 0 ∧ ft = 0
def TurnR (ar c d : Int) (P : List Tup) (u v : Nat) : Prop := if rightB ar P [c, d] then TurnTo (ptsL c.toNat d.toNat (setL P)) (ptsL c.toNat d.toNat (setL P)).length u v else u = 0 ∧ v = 0
theorem LineR.sim {ar c d : Int} {P : List Tup} {sl st ft sl' st' ft' : Nat} (h : LineR ar c d P sl st ft) (h' : LineR ar c d P sl' st' ft') : Sim sl sl' ∧ Sim st st' ∧ Sim ft ft' := by
  unfold LineR at h h'
  by_cases hk : rightB ar P [c, d]
  · rw [if_pos hk] at h h'; exact h.sim h'
  · rw [if_neg hk] at h h'
    obtain ⟨rfl, rfl, rfl⟩ := h
    obtain ⟨rfl, rfl, rfl⟩ := h'
    exact ⟨.refl _, .refl _, .refl _⟩
theorem TurnR.sim {ar c d : Int} {P : List Tup} {u v u' v' : Nat} (h : TurnR ar c d P u v) (h' : TurnR ar c d P u' v') : Sim u u' ∧ Sim v v' := by
  unfold TurnR at h h'
  by_cases hk : rightB ar P [c, d]
  · rw [if_pos hk] at h h'; exact h.sim h'
  · rw [if_neg hk] at h h'
    obtain ⟨rfl, rfl⟩ := h
    obtain ⟨rfl, rfl⟩ := h'
    exact ⟨.refl _, .refl _⟩
theorem like28s (x y : Nat) (w0 : World) (h : Sim x y) : Calls Tryd.prog 28 #[.float .f64 x, .float .f64 y] w0 fun e w' => e = .returned (.bool true) ∧ w0 = w' := by
  have := like28 x y w0
  rw [like_sim h] at this; exact this
theorem fit24m (pr : ByteArray) (ar : Int) (L M : List Row) (hMP : tp M = tp L) (va : Value) (c d : Int) (w0 : World) (ha : Src w0.heap va M.length 1 (flat enR M)) (hL : RowsP w0.heap M) (hn : M.length ≤ 1466015503701) (hsz : SizeL M) (hT : Laid w0) : Calls Tryd.prog 24 #[.agg #[.string pr, .int .i64 ar, va], .int .i64 c, .int .i64 d] w0 fun e w' => ∃ sl st ft : Nat, e = .returned (.tuple #[.agg #[.int .i64 (lN ar c d (tp L)), .float .f64 sl, .float .f64 st, .float .f64 ft], .int .i64 (lE ar c d (tp L))]) ∧ Ext w0 w' ∧ LineR ar c d (tp L) sl st ft := by
  by_cases h : rightB ar (tp L) [c, d]
  · obtain ⟨hG, hC, hD⟩ := right_two' h
    obtain ⟨c, rfl⟩ := bad_nat2 hC
    obtain ⟨d, rfl⟩ := bad_nat2 hD
    have := fit24 pr ar M va c d w0 ha hL (by rw [hMP]; exact hG) hC hD hn hsz hT
    rw [hMP] at this
    exact this.mono fun e w' ⟨sl, st, ft, h1, h2, h3⟩ => ⟨sl, st, ft, by rw [h1]; unfold lE; rw [if_pos h]; unfold lN; rw [if_pos h]; rfl, h2, by unfold LineR; rw [if_pos h]; exact h3⟩
  · exact (fit24e pr ar M va c d w0 ha hL (by rw [hMP]; exact h)).mono fun e w' ⟨h1, h2⟩ => ⟨0, 0, 0, by rw [h1]; unfold lE; rw [if_neg h]; unfold lN; rw [if_neg h], h2, by unfold LineR; rw [if_neg h]; exact ⟨rfl, rfl, rfl⟩⟩
theorem reffit25m (pr : ByteArray) (ar : Int) (L M : List Row) (hMP : tp M = tp L) (va : Value) (c d : Int) (w0 : World) (ha : Src w0.heap va M.length 1 (flat enR M)) (hL : RowsP w0.heap M) (hn : M.length ≤ 1466015503701) (hsz : SizeL M) : Calls Tryd.prog 25 #[.agg #[.string pr, .int .i64 ar, va], .int .i64 c, .int .i64 d] w0 fun e w' => ∃ sl st ft : Nat, e = .returned (.tuple #[.agg #[.int .i64 (lN ar c d (tp L)), .float .f64 sl, .float .f64 st, .float .f64 ft], .int .i64 (lE ar c d (tp L))]) ∧ Ext w0 w' ∧ LineR ar c d (tp L) sl st ft := by
  by_cases h : rightB ar (tp L) [c, d]
  · obtain ⟨hG, hC, hD⟩ := right_two' h
    obtain ⟨c, rfl⟩ := bad_nat2 hC
    obtain ⟨d, rfl⟩ := bad_nat2 hD
    have := reffit25 pr ar M va c d w0 ha hL (by rw [hMP]; exact hG) hC hD hn hsz
    rw [hMP] at this
    exact this.mono fun e w' ⟨sl, st, ft, h1, h2, h3⟩ => ⟨sl, st, ft, by rw [h1]; unfold lE; rw [if_pos h]; unfold lN; rw [if_pos h]; rfl, h2, by unfold LineR; rw [if_pos h]; exact h3⟩
  · exact (reffit25e pr ar M va c d w0 ha hL (by rw [hMP]; exact h)).mono fun e w' ⟨h1, h2⟩ => ⟨0, 0, 0, by rw [h1]; unfold lE; rw [if_neg h]; unfold lN; rw [if_neg h], h2, by unfold LineR; rw [if_neg h]; exact ⟨rfl, rfl, rfl⟩⟩
theorem turn26m (pr : ByteArray) (ar : Int) (L M : List Row) (hMP : tp M = tp L) (va : Value) (c d : Int) (w0 : World) (ha : Src w0.heap va M.length 1 (flat enR M)) (hL : RowsP w0.heap M) (hn : M.length ≤ 1466015503701) (hsz : SizeL M) (hT : Laid w0) : Calls Tryd.prog 26 #[.agg #[.string pr, .int .i64 ar, va], .int .i64 c, .int .i64 d] w0 fun e w' => ∃ u v : Nat, e = .returned (.tuple #[.complex .f64 u v, .int .i64 (lE ar c d (tp L))]) ∧ Ext w0 w' ∧ TurnR ar c d (tp L) u v := by
  by_cases h : rightB ar (tp L) [c, d]
  · obtain ⟨hG, hC, hD⟩ := right_two' h
    obtain ⟨c, rfl⟩ := bad_nat2 hC
    obtain ⟨d, rfl⟩ := bad_nat2 hD
    have := turn26 pr ar M va c d w0 ha hL (by rw [hMP]; exact hG) hC hD hn hsz hT
    rw [hMP] at this
    exact this.mono fun e w' ⟨u, v, h1, h2, h3⟩ => ⟨u, v, by rw [h1]; unfold lE; rw [if_pos h], h2, by unfold TurnR; rw [if_pos h]; exact h3⟩
  · exact (turn26e pr ar M va c d w0 ha hL (by rw [hMP]; exact h)).mono fun e w' ⟨h1, h2⟩ => ⟨0, 0, by rw [h1]; unfold lE; rw [if_neg h], h2, by unfold TurnR; rw [if_neg h]; exact ⟨rfl, rfl⟩⟩
theorem refturn27m (pr : ByteArray) (ar : Int) (L M : List Row) (hMP : tp M = tp L) (va : Value) (c d : Int) (w0 : World) (ha : Src w0.heap va M.length 1 (flat enR M)) (hL : RowsP w0.heap M) (hn : M.length ≤ 1466015503701) (hsz : SizeL M) : Calls Tryd.prog 27 #[.agg #[.string pr, .int .i64 ar, va], .int .i64 c, .int .i64 d] w0 fun e w' => ∃ u v : Nat, e = .returned (.tuple #[.float .f64 u, .float .f64 v, .int .i64 (lE ar c d (tp L))]) ∧ Ext w0 w' ∧ TurnR ar c d (tp L) u v := by
  by_cases h : rightB ar (tp L) [c, d]
  · obtain ⟨hG, hC, hD⟩ := right_two' h
    obtain ⟨c, rfl⟩ := bad_nat2 hC
    obtain ⟨d, rfl⟩ := bad_nat2 hD
    have := refturn27 pr ar M va c d w0 ha hL (by rw [hMP]; exact hG) hC hD hn hsz
    rw [hMP] at this
    exact this.mono fun e w' ⟨u, v, h1, h2, h3⟩ => ⟨u, v, by rw [h1]; unfold lE; rw [if_pos h], h2, by unfold TurnR; rw [if_pos h]; exact h3⟩
  · exact (refturn27e pr ar M va c d w0 ha hL (by rw [hMP]; exact h)).mono fun e w' ⟨h1, h2⟩ => ⟨0, 0, by rw [h1]; unfold lE; rw [if_neg h], h2, by unfold TurnR; rw [if_neg h]; exact ⟨rfl, rfl⟩⟩
set_option maxHeartbeats 4000000 in
theorem lines8 (pr : ByteArray) (ar : Int) (L : List Row) (va : Value) (c d : Int) (w0 : World) (ha : Src w0.heap va L.length 1 (flat enR L)) (hL : RowsP w0.heap L) (hn : L.length ≤ 1048576) (hw : ∀ x ∈ L, x.2.length ≤ 4398046511104) (hsz : SizeL L) (hT : Laid w0) : Calls Tryd.prog 8 #[.agg #[.string pr, .int .i64 ar, va], .int .i64 c, .int .i64 d] w0 fun e w' => e = .returned (.bool true) ∧ Ext w0 w' := by
  have hE0 : Below w0.heap.size w0 w0 := Below.refl _ _
  have hz0 := hE0.le
  obtain ⟨a, ca, rfl, hca, hca1⟩ := ha.form
  refine enter Tryd.func8 rfl 105 Tryd.ntmps8 rfl ?_
  refine seqK fun Q1 kn2 kr3 ke4 => ?_
  refine region ?_
  refine st_e (e_box (v := .agg #[.string pr, .int .i64 ar, .slice a L.length ca]) rfl ?_)
  intro w5 hA6
  have hx7 := hA6.ext
  have hs8 := hA6.size
  have hB9 : Blk w5.heap w0.heap.size [.string pr, .int .i64 ar, .slice a L.length ca] 29 := hA6.new
  have hE10 : Below w0.heap.size w0 w5 := hx7.e hE0 (Nat.le_refl _)
  have hz11 := hE10.le
  have hs12 := hx7.size
  refine st_q (v := .bool false) (x_assign rfl) ?_
  refine st_nil ?_
  refine kn2 _ _ ?_
  refine seqK fun Q13 kn14 kr15 ke16 => ?_
  refine region ?_
  refine st_q (v := .agg #[.string pr, .int .i64 ar, .slice a L.length ca]) (x_loadA [.string pr, .int .i64 ar, .slice a L.length ca] T.ag29 rfl (hB9.cells 0 [.string pr, .int .i64 ar, .slice a L.length ca] (cells_at rfl))) ?_
  refine st_c (t_call [.agg #[.string pr, .int .i64 ar, .slice a L.length ca]] T.cf12 rfl rfl) (lent12 pr ar L _ _ (ha.below hE10) (RowsP.below hL hE10) hn hw) ?_
  rintro _ w17 ⟨am, cm, M, rfl, hx18, hMP, hLt⟩
  refine ⟨_, rfl, ?_⟩
  have hB19 := hB9.ext hx18
  have hE20 : Below w0.heap.size w0 w17 := hx18.e hE10 (Nat.le_refl _)
  have hz21 := hE20.le
  have hs22 := hx18.size
  have hszM := size_tp2 hMP hsz
  have hMl := len_tp2 hMP
  have hLM : Ext w17 w17 := Below.refl _ _
  refine st_e (e_alloc T.zv29 ?_)
  intro w23 hA24
  have hx25 := hA24.ext
  have hs26 := hA24.size
  have hB27 : Blk w23.heap w17.heap.size [.string ByteArray.empty, .int .i64 ((0 : Nat) : Int), .slice none 0 0] 29 := hA24.new
  have hB28 := hB19.ext hx25
  have hF29 := hx25.e hLM (Nat.le_refl _)
  have hE30 : Below w0.heap.size w0 w23 := hx25.e hE20 (Nat.le_refl _)
  have hz31 := hE30.le
  have hs32 := hx25.size
  refine st_s (e_st (v := .agg #[.string pr, .int .i64 ar, .slice am M.length cm]) T.sz29 rfl rfl hB27 (by simp [Value.cells]) (by rfl) ?_)
  intro w33 hP34
  have hB35 : Blk w33.heap w17.heap.size [.string pr, .int .i64 ar, .slice am M.length cm] 29 := hP34.new
  have hs36 := hP34.size
  have hB37 := hB28.pt hP34 (by omega)
  have hF38 := hP34.below hF29 (by omega)
  have hE39 : Below w0.heap.size w0 w33 := hP34.below hE30 (by omega)
  have hz40 := hE39.le
  refine st_nil ?_
  refine kn14 _ _ ?_
  refine seqK fun Q41 kn42 kr43 ke44 => ?_
  refine region ?_
  refine st_q (v := .agg #[.string pr, .int .i64 ar, .slice am M.length cm]) (x_loadA [.string pr, .int .i64 ar, .slice am M.length cm] T.ag29 rfl (hB35.cells 0 [.string pr, .int .i64 ar, .slice am M.length cm] (cells_at rfl))) ?_
  refine st_q (v := .int .i64 c) (x_move rfl) ?_
  refine st_q (v := .int .i64 d) (x_move rfl) ?_
  refine st_c (t_call [.agg #[.string pr, .int .i64 ar, .slice am M.length cm], .int .i64 c, .int .i64 d] T.cf24 rfl rfl) (fit24m pr ar L M hMP _ c d _ (hLt.ext hF38).src (hLt.ext hF38).rowsP (by omega) hszM (hT.below hE39)) ?_
  rintro _ w45 ⟨sla, sta, fta, rfl, hx46, hRa⟩
  refine ⟨_, rfl, ?_⟩
  have hB47 := hB37.ext hx46
  have hB48 := hB35.ext hx46
  have hF49 := hx46.e hF38 (Nat.le_refl _)
  have hE50 : Below w0.heap.size w0 w45 := hx46.e hE39 (Nat.le_refl _)
  have hz51 := hE50.le
  have hs52 := hx46.size
  refine st_q (v := .tuple #[.agg #[.int .i64 ((lN ar c d (tp L))), .float .f64 sla, .float .f64 sta, .float .f64 fta], .int .i64 ((lE ar c d (tp L)))]) (x_move rfl) ?_
  refine st_q (v := .agg #[.int .i64 ((lN ar c d (tp L))), .float .f64 sla, .float .f64 sta, .float .f64 fta]) (x_extract rfl rfl) ?_
  refine st_q (v := .int .i64 ((lE ar c d (tp L)))) (x_extract rfl rfl) ?_
  refine st_e (e_alloc T.zv57 ?_)
  intro w53 hA54
  have hx55 := hA54.ext
  have hs56 := hA54.size
  have hB57 : Blk w53.heap w45.heap.size [.int .i64 ((0 : Nat) : Int), .float .f64 0, .float .f64 0, .float .f64 0] 57 := hA54.new
  have hB58 := hB47.ext hx55
  have hB59 := hB48.ext hx55
  have hF60 := hx55.e hF49 (Nat.le_refl _)
  have hE61 : Below w0.heap.size w0 w53 := hx55.e hE50 (Nat.le_refl _)
  have hz62 := hE61.le
  have hs63 := hx55.size
  refine st_s (e_st (v := .agg #[.int .i64 ((lN ar c d (tp L))), .float .f64 sla, .float .f64 sta, .float .f64 fta]) T.sz57 rfl rfl hB57 (by simp [Value.cells]) (by rfl) ?_)
  intro w64 hP65
  have hB66 : Blk w64.heap w45.heap.size [.int .i64 ((lN ar c d (tp L))), .float .f64 sla, .float .f64 sta, .float .f64 fta] 57 := hP65.new
  have hs67 := hP65.size
  have hB68 := hB58.gk (hP65.grownBy) (hB57.rowk) (by decide)
  have hB69 := hB59.gk (hP65.grownBy) (hB57.rowk) (by decide)
  have hF70 := hP65.below hF60 (by omega)
  have hE71 : Below w0.heap.size w0 w64 := hP65.below hE61 (by omega)
  have hz72 := hE71.le
  refine st_q (v := .int .i64 ((lE ar c d (tp L)))) (x_assign rfl) ?_
  refine st_nil ?_
  refine kn42 _ _ ?_
  refine seqK fun Q73 kn74 kr75 ke76 => ?_
  refine region ?_
  refine st_q (v := .agg #[.string pr, .int .i64 ar, .slice a L.length ca]) (x_loadA [.string pr, .int .i64 ar, .slice a L.length ca] T.ag29 rfl (hB68.cells 0 [.string pr, .int .i64 ar, .slice a L.length ca] (cells_at rfl))) ?_
  refine st_q (v := .int .i64 c) (x_move rfl) ?_
  refine st_q (v := .int .i64 d) (x_move rfl) ?_
  refine st_c (t_call [.agg #[.string pr, .int .i64 ar, .slice a L.length ca], .int .i64 c, .int .i64 d] T.cf25 rfl rfl) (reffit25m pr ar L L rfl _ c d _ (ha.below hE71) (RowsP.below hL hE71) (by omega) hsz) ?_
  rintro _ w77 ⟨slb, stb, ftb, rfl, hx78, hRb⟩
  refine ⟨_, rfl, ?_⟩
  have hB79 := hB68.ext hx78
  have hB80 := hB69.ext hx78
  have hB81 := hB66.ext hx78
  have hF82 := hx78.e hF70 (Nat.le_refl _)
  have hE83 : Below w0.heap.size w0 w77 := hx78.e hE71 (Nat.le_refl _)
  have hz84 := hE83.le
  have hs85 := hx78.size
  refine st_q (v := .tuple #[.agg #[.int .i64 ((lN ar c d (tp L))), .float .f64 slb, .float .f64 stb, .float .f64 ftb], .int .i64 ((lE ar c d (tp L)))]) (x_move rfl) ?_
  refine st_q (v := .agg #[.int .i64 ((lN ar c d (tp L))), .float .f64 slb, .float .f64 stb, .float .f64 ftb]) (x_extract rfl rfl) ?_
  refine st_q (v := .int .i64 ((lE ar c d (tp L)))) (x_extract rfl rfl) ?_
  refine st_e (e_alloc T.zv57 ?_)
  intro w86 hA87
  have hx88 := hA87.ext
  have hs89 := hA87.size
  have hB90 : Blk w86.heap w77.heap.size [.int .i64 ((0 : Nat) : Int), .float .f64 0, .float .f64 0, .float .f64 0] 57 := hA87.new
  have hB91 := hB79.ext hx88
  have hB92 := hB80.ext hx88
  have hB93 := hB81.ext hx88
  have hF94 := hx88.e hF82 (Nat.le_refl _)
  have hE95 : Below w0.heap.size w0 w86 := hx88.e hE83 (Nat.le_refl _)
  have hz96 := hE95.le
  have hs97 := hx88.size
  refine st_s (e_st (v := .agg #[.int .i64 ((lN ar c d (tp L))), .float .f64 slb, .float .f64 stb, .float .f64 ftb]) T.sz57 rfl rfl hB90 (by simp [Value.cells]) (by rfl) ?_)
  intro w98 hP99
  have hB100 : Blk w98.heap w77.heap.size [.int .i64 ((lN ar c d (tp L))), .float .f64 slb, .float .f64 stb, .float .f64 ftb] 57 := hP99.new
  have hs101 := hP99.size
  have hB102 := hB91.gk (hP99.grownBy) (hB90.rowk) (by decide)
  have hB103 := hB92.gk (hP99.grownBy) (hB90.rowk) (by decide)
  have hB104 := hB93.pt hP99 (by omega)
  have hF105 := hP99.below hF94 (by omega)
  have hE106 : Below w0.heap.size w0 w98 := hP99.below hE95 (by omega)
  have hz107 := hE106.le
  refine st_q (v := .int .i64 ((lE ar c d (tp L)))) (x_assign rfl) ?_
  refine st_nil ?_
  refine kn74 _ _ ?_
  refine seqK fun Q108 kn109 kr110 ke111 => ?_
  refine region ?_
  refine st_q (v := .agg #[.string pr, .int .i64 ar, .slice am M.length cm]) (x_loadA [.string pr, .int .i64 ar, .slice am M.length cm] T.ag29 rfl (hB103.cells 0 [.string pr, .int .i64 ar, .slice am M.length cm] (cells_at rfl))) ?_
  refine st_q (v := .int .i64 c) (x_move rfl) ?_
  refine st_q (v := .int .i64 d) (x_move rfl) ?_
  refine st_c (t_call [.agg #[.string pr, .int .i64 ar, .slice am M.length cm], .int .i64 c, .int .i64 d] T.cf26 rfl rfl) (turn26m pr ar L M hMP _ c d _ (hLt.ext hF105).src (hLt.ext hF105).rowsP (by omega) hszM (hT.below hE106)) ?_
  rintro _ w112 ⟨ua, va1, rfl, hx113, hTa⟩
  refine ⟨_, rfl, ?_⟩
  have hB114 := hB102.ext hx113
  have hB115 := hB103.ext hx113
  have hB116 := hB104.ext hx113
  have hB117 := hB100.ext hx113
  have hF118 := hx113.e hF105 (Nat.le_refl _)
  have hE119 : Below w0.heap.size w0 w112 := hx113.e hE106 (Nat.le_refl _)
  have hz120 := hE119.le
  have hs121 := hx113.size
  refine st_q (v := .tuple #[.complex .f64 ua va1, .int .i64 ((lE ar c d (tp L)))]) (x_move rfl) ?_
  refine st_q (v := .complex .f64 ua va1) (x_extract rfl rfl) ?_
  refine st_q (v := .int .i64 ((lE ar c d (tp L)))) (x_extract rfl rfl) ?_
  refine st_q (v := .complex .f64 ua va1) (x_assign rfl) ?_
  refine st_q (v := .int .i64 ((lE ar c d (tp L)))) (x_assign rfl) ?_
  refine st_nil ?_
  refine kn109 _ _ ?_
  refine seqK fun Q122 kn123 kr124 ke125 => ?_
  refine region ?_
  refine st_q (v := .agg #[.string pr, .int .i64 ar, .slice a L.length ca]) (x_loadA [.string pr, .int .i64 ar, .slice a L.length ca] T.ag29 rfl (hB114.cells 0 [.string pr, .int .i64 ar, .slice a L.length ca] (cells_at rfl))) ?_
  refine st_q (v := .int .i64 c) (x_move rfl) ?_
  refine st_q (v := .int .i64 d) (x_move rfl) ?_
  refine st_c (t_call [.agg #[.string pr, .int .i64 ar, .slice a L.length ca], .int .i64 c, .int .i64 d] T.cf27 rfl rfl) (refturn27m pr ar L L rfl _ c d _ (ha.below hE119) (RowsP.below hL hE119) (by omega) hsz) ?_
  rintro _ w126 ⟨ub, vb1, rfl, hx127, hTb⟩
  refine ⟨_, rfl, ?_⟩
  have hB128 := hB114.ext hx127
  have hB129 := hB115.ext hx127
  have hB130 := hB116.ext hx127
  have hB131 := hB117.ext hx127
  have hF132 := hx127.e hF118 (Nat.le_refl _)
  have hE133 : Below w0.heap.size w0 w126 := hx127.e hE119 (Nat.le_refl _)
  have hz134 := hE133.le
  have hs135 := hx127.size
  refine st_q (v := .tuple #[.float .f64 ub, .float .f64 vb1, .int .i64 ((lE ar c d (tp L)))]) (x_move rfl) ?_
  refine st_q (v := .float .f64 ub) (x_extract rfl rfl) ?_
  refine st_q (v := .float .f64 vb1) (x_extract rfl rfl) ?_
  refine st_q (v := .int .i64 ((lE ar c d (tp L)))) (x_extract rfl rfl) ?_
  refine st_q (v := .float .f64 ub) (x_assign rfl) ?_
  refine st_q (v := .float .f64 vb1) (x_assign rfl) ?_
  refine st_q (v := .int .i64 ((lE ar c d (tp L)))) (x_assign rfl) ?_
  refine st_nil ?_
  refine kn123 _ _ ?_
  refine seqK fun Q136 kn137 kr138 ke139 => ?_
  refine seqK fun Q140 kn141 kr142 ke143 => ?_
  refine region ?_
  refine st_q (v := .int .i64 ((lE ar c d (tp L)))) (x_move rfl) ?_
  refine st_c (t_call [.int .i64 ((lE ar c d (tp L)))] T.cf16 rfl rfl) (num16 ((lE ar c d (tp L))) _) ?_
  rintro _ _ ⟨rfl, rfl⟩
  refine ⟨_, rfl, ?_⟩
  refine st_q (v := .int .i64 ((lE ar c d (tp L)))) (x_move rfl) ?_
  refine st_q (v := .bool (decide (((lE ar c d (tp L))) ≠ ((lE ar c d (tp L)))))) (x_neq rfl rfl) ?_
  refine st_if (p := ((lE ar c d (tp L))) ≠ ((lE ar c d (tp L)))) (x_move rfl) (fun h144 => ?_) (fun h144 => ?_)
  ·
   exact absurd h144 (not_not_intro rfl)
  ·
   refine st_gq 4 52 rfl rfl (by decide) ?_
   refine st_q (v := .int .i64 ((lE ar c d (tp L)))) (x_move rfl) ?_
   refine st_gq 4 52 rfl rfl (by decide) ?_
   refine st_c (t_call [.int .i64 ((lE ar c d (tp L)))] T.cf16 rfl rfl) (num16 ((lE ar c d (tp L))) _) ?_
   rintro _ _ ⟨rfl, rfl⟩
   refine ⟨_, rfl, ?_⟩
   refine st_gq 4 52 rfl rfl (by decide) ?_
   refine st_q (v := .int .i64 ((lE ar c d (tp L)))) (x_move rfl) ?_
   refine st_gq 4 52 rfl rfl (by decide) ?_
   refine st_q (v := .bool (decide (((lE ar c d (tp L))) ≠ ((lE ar c d (tp L)))))) (x_neq rfl rfl) ?_
   refine st_q (v := .bool (decide (((lE ar c d (tp L))) ≠ ((lE ar c d (tp L)))))) (x_pickF rfl rfl) ?_
   refine st_if (p := ((lE ar c d (tp L))) ≠ ((lE ar c d (tp L)))) (x_move rfl) (fun h145 => ?_) (fun h145 => ?_)
   ·
    exact absurd h145 (not_not_intro rfl)
   ·
    refine st_gq 10 58 rfl rfl (by decide) ?_
    refine st_q (v := .pointer (some ⟨w45.heap.size, 0, none⟩)) (x_field (o := 0) T.fa57_0 rfl) ?_
    refine st_gq 10 58 rfl rfl (by decide) ?_
    refine st_q (v := .int .i64 ((lN ar c d (tp L)))) (x_load1 T.na3 rfl (hB130.one 0 rfl)) ?_
    refine st_gq 10 58 rfl rfl (by decide) ?_
    refine st_q (v := .pointer (some ⟨w77.heap.size, 0, none⟩)) (x_field (o := 0) T.fa57_0 rfl) ?_
    refine st_gq 10 58 rfl rfl (by decide) ?_
    refine st_q (v := .int .i64 ((lN ar c d (tp L)))) (x_load1 T.na3 rfl (hB131.one 0 rfl)) ?_
    refine st_gq 10 58 rfl rfl (by decide) ?_
    refine st_q (v := .bool (decide (((lN ar c d (tp L))) ≠ ((lN ar c d (tp L)))))) (x_neq rfl rfl) ?_
    refine st_q (v := .bool (decide (((lN ar c d (tp L))) ≠ ((lN ar c d (tp L)))))) (x_pickF rfl rfl) ?_
    refine st_if (p := ((lN ar c d (tp L))) ≠ ((lN ar c d (tp L)))) (x_move rfl) (fun h146 => ?_) (fun h146 => ?_)
    ·
     exact absurd h146 (not_not_intro rfl)
    ·
     refine st_gq 17 65 rfl rfl (by decide) ?_
     refine st_q (v := .agg #[.string pr, .int .i64 ar, .slice am M.length cm]) (x_loadA [.string pr, .int .i64 ar, .slice am M.length cm] T.ag29 rfl (hB129.cells 0 [.string pr, .int .i64 ar, .slice am M.length cm] (cells_at rfl))) ?_
     refine st_gq 17 65 rfl rfl (by decide) ?_
     refine st_q (v := .agg #[.string pr, .int .i64 ar, .slice a L.length ca]) (x_loadA [.string pr, .int .i64 ar, .slice a L.length ca] T.ag29 rfl (hB128.cells 0 [.string pr, .int .i64 ar, .slice a L.length ca] (cells_at rfl))) ?_
     refine st_gq 17 65 rfl rfl (by decide) ?_
     refine st_c (t_call [.agg #[.string pr, .int .i64 ar, .slice am M.length cm], .agg #[.string pr, .int .i64 ar, .slice a L.length ca]] T.cf18 rfl rfl) (left18 pr ar L M _ am cm _ (ha.below hE133) (RowsP.below hL hE133) (hLt.ext hF132) hMP hn) ?_
     rintro _ w147 ⟨rfl, hx148⟩
     refine ⟨_, rfl, ?_⟩
     have hB149 := hB128.ext hx148
     have hB150 := hB129.ext hx148
     have hB151 := hB130.ext hx148
     have hB152 := hB131.ext hx148
     have hF153 := hx148.e hF132 (Nat.le_refl _)
     have hE154 : Below w0.heap.size w0 w147 := hx148.e hE133 (Nat.le_refl _)
     have hz155 := hE154.le
     have hs156 := hx148.size
     refine st_gq 17 65 rfl rfl (by decide) ?_
     refine st_q (v := .bool false) (x_notB (b := true) rfl) ?_
     refine st_q (v := .bool false) (x_pickF rfl rfl) ?_
     refine st_nil ?_
     refine kn141 _ _ ?_
     refine cndF rfl ?_
     refine skip ?_
     refine kn137 _ _ ?_
     refine seqK fun Q157 kn158 kr159 ke160 => ?_
     refine region ?_
     refine st_q (v := .pointer (some ⟨w45.heap.size, 1, none⟩)) (x_field (o := 0) T.fa57_1 rfl) ?_
     refine st_q (v := .float .f64 sla) (x_load1 T.na22 rfl (hB151.one 1 rfl)) ?_
     refine st_q (v := .pointer (some ⟨w77.heap.size, 1, none⟩)) (x_field (o := 0) T.fa57_1 rfl) ?_
     refine st_q (v := .float .f64 slb) (x_load1 T.na22 rfl (hB152.one 1 rfl)) ?_
     refine st_c (t_call [.float .f64 sla, .float .f64 slb] T.cf28 rfl rfl) (like28s _ _ _ (hRa.sim hRb).1) ?_
     rintro _ _ ⟨rfl, rfl⟩
     refine ⟨_, rfl, ?_⟩
     refine st_q (v := .bool true) (x_move rfl) ?_
     refine st_gq 5 76 rfl rfl (by decide) ?_
     refine st_q (v := .pointer (some ⟨w45.heap.size, 2, none⟩)) (x_field (o := 0) T.fa57_2 rfl) ?_
     refine st_gq 5 76 rfl rfl (by decide) ?_
     refine st_q (v := .float .f64 sta) (x_load1 T.na22 rfl (hB151.one 2 rfl)) ?_
     refine st_gq 5 76 rfl rfl (by decide) ?_
     refine st_q (v := .pointer (some ⟨w77.heap.size, 2, none⟩)) (x_field (o := 0) T.fa57_2 rfl) ?_
     refine st_gq 5 76 rfl rfl (by decide) ?_
     refine st_q (v := .float .f64 stb) (x_load1 T.na22 rfl (hB152.one 2 rfl)) ?_
     refine st_gq 5 76 rfl rfl (by decide) ?_
     refine st_c (t_call [.float .f64 sta, .float .f64 stb] T.cf28 rfl rfl) (like28s _ _ _ (hRa.sim hRb).2.1) ?_
     rintro _ _ ⟨rfl, rfl⟩
     refine ⟨_, rfl, ?_⟩
     refine st_q (v := .bool true) (x_pickT rfl rfl) ?_
     refine st_q (v := .bool true) (x_move rfl) ?_
     refine st_gq 12 83 rfl rfl (by decide) ?_
     refine st_q (v := .pointer (some ⟨w45.heap.size, 3, none⟩)) (x_field (o := 0) T.fa57_3 rfl) ?_
     refine st_gq 12 83 rfl rfl (by decide) ?_
     refine st_q (v := .float .f64 fta) (x_load1 T.na22 rfl (hB151.one 3 rfl)) ?_
     refine st_gq 12 83 rfl rfl (by decide) ?_
     refine st_q (v := .pointer (some ⟨w77.heap.size, 3, none⟩)) (x_field (o := 0) T.fa57_3 rfl) ?_
     refine st_gq 12 83 rfl rfl (by decide) ?_
     refine st_q (v := .float .f64 ftb) (x_load1 T.na22 rfl (hB152.one 3 rfl)) ?_
     refine st_gq 12 83 rfl rfl (by decide) ?_
     refine st_c (t_call [.float .f64 fta, .float .f64 ftb] T.cf28 rfl rfl) (like28s _ _ _ (hRa.sim hRb).2.2) ?_
     rintro _ _ ⟨rfl, rfl⟩
     refine ⟨_, rfl, ?_⟩
     refine st_q (v := .bool true) (x_pickT rfl rfl) ?_
     refine st_q (v := .bool true) (x_move rfl) ?_
     refine st_gq 19 90 rfl rfl (by decide) ?_
     refine st_q (v := .complex .f64 ua va1) (x_move rfl) ?_
     refine st_gq 19 90 rfl rfl (by decide) ?_
     refine st_q (v := .float .f64 ua) (x_real rfl) ?_
     refine st_gq 19 90 rfl rfl (by decide) ?_
     refine st_q (v := .float .f64 ub) (x_move rfl) ?_
     refine st_gq 19 90 rfl rfl (by decide) ?_
     refine st_c (t_call [.float .f64 ua, .float .f64 ub] T.cf28 rfl rfl) (like28s _ _ _ (hTa.sim hTb).1) ?_
     rintro _ _ ⟨rfl, rfl⟩
     refine ⟨_, rfl, ?_⟩
     refine st_q (v := .bool true) (x_pickT rfl rfl) ?_
     refine st_q (v := .bool true) (x_move rfl) ?_
     refine st_gq 25 96 rfl rfl (by decide) ?_
     refine st_q (v := .complex .f64 ua va1) (x_move rfl) ?_
     refine st_gq 25 96 rfl rfl (by decide) ?_
     refine st_q (v := .float .f64 va1) (x_imag rfl) ?_
     refine st_gq 25 96 rfl rfl (by decide) ?_
     refine st_q (v := .float .f64 vb1) (x_move rfl) ?_
     refine st_gq 25 96 rfl rfl (by decide) ?_
     refine st_c (t_call [.float .f64 va1, .float .f64 vb1] T.cf28 rfl rfl) (like28s _ _ _ (hTa.sim hTb).2) ?_
     rintro _ _ ⟨rfl, rfl⟩
     refine ⟨_, rfl, ?_⟩
     refine st_q (v := .bool true) (x_pickT rfl rfl) ?_
     refine st_q (v := .bool true) (x_move rfl) ?_
     refine st_gq 31 102 rfl rfl (by decide) ?_
     refine st_c (t_call [] T.cf11 rfl rfl) (known11 _ (hT.below hE154)) ?_
     rintro _ w161 ⟨rfl, hx162⟩
     refine ⟨_, rfl, ?_⟩
     have hB163 := hB149.ext hx162
     have hB164 := hB150.ext hx162
     have hB165 := hB151.ext hx162
     have hB166 := hB152.ext hx162
     have hF167 := hx162.e hF153 (Nat.le_refl _)
     have hE168 : Below w0.heap.size w0 w161 := hx162.e hE154 (Nat.le_refl _)
     have hz169 := hE168.le
     have hs170 := hx162.size
     refine st_q (v := .bool true) (x_pickT rfl rfl) ?_
     refine st_q (v := .bool true) (x_assign rfl) ?_
     refine st_nil ?_
     refine kn158 _ _ ?_
     refine ret ?_
     refine leave1 (P := Tryd.prog) (fn := Tryd.f8) (t := 6) (v := .bool true) rfl rfl ?_
     exact ⟨rfl, hE168⟩

end Go.Proofs.YtegpcbckiehleaaDoor
