import Derived.Test.YtegpcbckiehleaaDoorS14
import Derived.Test.YtegpcbckiehleaaDoorSFill
namespace Go.Proofs.YtegpcbckiehleaaDoor
open Go.RowKit Go.Eng Go.OrdPure Go.Flt
theorem T.cf34 : CF Tryd.prog 34 := fun _ _ => by kernel_rfl
theorem T.cf35 : CF Tryd.prog 35 := fun _ _ => by kernel_rfl
theorem T.cf22 : CF Tryd.prog 22 := fun _ _ => by kernel_rfl
theorem T.zv44 : ZV Tryd.prog 44 (.agg #[.slice none 0 0, .int .i64 ((0 : Nat) : Int), .int .i64 ((0 : Nat) : Int), .float .f64 0, .float .f64 0, .float .f64 0, .float .f64 0, .float .f64 0]) := fun _ => by kernel_rfl
theorem T.ag44 : AG Tryd.prog 44 8 := fun _ => ⟨by kernel_rfl, by kernel_rfl⟩
theorem T.sz44 : SZ Tryd.prog 44 8 := fun _ => by kernel_rfl
theorem T.cf49 : CF Tryd.prog 49 := fun _ _ => by kernel_rfl
theorem T.cf36 : CF Tryd.prog 36 := fun _ _ => by kernel_rfl

set_option maxHeartbeats 4000000 in
theorem mean49 (l : List Nat) (vl : Value) (w0 : World) (hl : Src w0.heap vl l.length 1 (flat enF l)) (h0 : 0 < l.length) : Calls Tryd.prog 49 #[vl] w0 fun e w' => ∃ s m, e = .returned (.tuple #[.float .f64 s, .float .f64 m]) ∧ Ext w0 w' ∧ SumTo 0 l l.length s ∧ FR (Flt.D.div s (fromInt ((l.length : Nat) : Int))) m := by
  have hE0 : Below w0.heap.size w0 w0 := Below.refl _ _
  have hz0 := hE0.le
  obtain ⟨al, cl, rfl, hcl, hcl1⟩ := hl.form
  refine enter Tryd.func49 rfl 27 Tryd.ntmps49 rfl ?_
  refine seqK fun Q1 kn2 kr3 ke4 => ?_
  refine region ?_
  refine st_q (v := .float .f64 0) (x_assign rfl) ?_
  refine st_q (v := .float .f64 0) (x_assign rfl) ?_
  refine st_nil ?_
  refine kn2 _ _ ?_
  refine seqK fun Q5 kn6 kr7 ke8 => ?_
  refine region ?_
  refine st_q (v := .float .f64 0) (x_assign rfl) ?_
  refine st_nil ?_
  refine kn6 _ _ ?_
  refine seqK fun Q9 kn10 kr11 ke12 => ?_
  refine seqK fun Q13 kn14 kr15 ke16 => ?_
  refine region ?_
  refine st_q (v := .int .i64 ((0 : Nat) : Int)) (x_assign rfl) ?_
  refine st_nil ?_
  refine kn14 _ _ ?_
  refine blockK fun Q17 kn18 kr19 kx20 kb21 => ?_
  refine loopK (α := Nat × Nat) (fun x => [(0, .slice al l.length cl), (4, .float .f64 x.2), (5, .int .i64 ((x.1 : Nat) : Int))]) (fun x w22 => Ext w0 w22 ∧ x.1 ≤ l.length ∧ SumTo 0 l x.1 x.2) (fun x => l.length - x.1) (0, 0) ⟨rfl, rfl, rfl, trivial⟩ ?_ ?_
  ·
    refine ⟨Below.refl _ _, ?_⟩
    try dsimp only
    exact ⟨Nat.zero_le _, rfl⟩
  ·
    rintro τ23 ⟨i, s⟩ w24 ⟨hx25, ⟨hi, hs⟩⟩
    try dsimp only at hi hs
    have hE26 : Below w0.heap.size w0 w24 := hx25.e hE0 (Nat.le_refl _)
    have hz27 := hE26.le
    have hs28 := hx25.size
    intro Q29 kn30 kr31 ke32
    refine seqK fun Q33 kn34 kr35 ke36 => ?_
    refine seqK fun Q37 kn38 kr39 ke40 => ?_
    refine region ?_
    refine st_q (v := .int .i64 ((i : Nat) : Int)) (x_move rfl) ?_
    refine st_q (v := .slice al l.length cl) (x_move rfl) ?_
    refine st_q (v := .int .i64 ((l.length : Nat) : Int)) (x_lenSl rfl Tryd.underlying78 rfl) ?_
    refine st_q (v := .bool (decide (i < l.length))) (x_lssN rfl rfl) ?_
    refine st_nil ?_
    refine kn38 _ _ ?_
    refine cnd (p := i < l.length) rfl (fun h41 => ?_) (fun h41 => ?_)
    ·
      refine skip ?_
      refine kn34 _ _ ?_
      refine seqK fun Q42 kn43 kr44 ke45 => ?_
      refine blockK fun Q46 kn47 kr48 kx49 kb50 => ?_
      refine region ?_
      refine st_q (v := .float .f64 s) (x_move rfl) ?_
      refine st_q (v := .slice al l.length cl) (x_move rfl) ?_
      refine st_q (v := .int .i64 ((i : Nat) : Int)) (x_move rfl) ?_
      obtain ⟨b51, o52, ha53, hc54⟩ := hl.at (by omega)
      refine st_q (v := .pointer (some ⟨b51, o52 + i * 1, none⟩)) (x_index' T.sl78 rfl ha53 rfl (by omega)) ?_
      refine st_q (v := .float .f64 ((el l i))) (x_load1 T.na22 rfl ((hc54.below hE26).elem enF_len (i := i) (by omega))) ?_
      refine st_e (e_addF (a := s) (b := ((el l i))) rfl rfl ?_)
      intro r55 w57 hr56 hx58
      have hF59 := hx58.e hx25 (Nat.le_refl _)
      have hE60 : Below w0.heap.size w0 w57 := hx58.e hE26 (Nat.le_refl _)
      have hz61 := hE60.le
      have hs62 := hx58.size
      refine st_q (v := .float .f64 r55) (x_assign rfl) ?_
      refine st_nil ?_
      refine kn47 _ _ ?_
      refine kn43 _ _ ?_
      refine region ?_
      refine st_q (v := .int .i64 ((i : Nat) : Int)) (x_move rfl) ?_
      refine st_q (v := .int .i64 (((i + 1) : Nat) : Int)) (x_addN rfl rfl (by omega)) ?_
      refine st_q (v := .int .i64 (((i + 1) : Nat) : Int)) (x_assign rfl) ?_
      refine st_nil ?_
      refine kn30 _ ((i + 1), r55) _ ⟨rfl, rfl, rfl, trivial⟩ ⟨hF59, ?_⟩ ?_
      ·
        try dsimp only
        exact ⟨by omega, _, hs, hr56⟩
      ·
        (try dsimp only); omega
    ·
      refine exit ?_
      refine ke36 _ _ _ ?_
      refine ke32 _ _ _ ?_
      refine kb21 _ _ ?_
      refine kn10 _ _ ?_
      refine seqK fun Q63 kn64 kr65 ke66 => ?_
      refine seqK fun Q67 kn68 kr69 ke70 => ?_
      refine region ?_
      refine st_q (v := .slice al l.length cl) (x_move rfl) ?_
      refine st_q (v := .int .i64 ((l.length : Nat) : Int)) (x_lenSl rfl Tryd.underlying78 rfl) ?_
      refine st_q (v := .bool (decide (l.length = 0))) (x_eqlN rfl rfl) ?_
      refine st_nil ?_
      refine kn68 _ _ ?_
      refine cnd (p := l.length = 0) rfl (fun h71 => ?_) (fun h71 => ?_)
      ·
        exact absurd h71 (by omega)
      ·
        refine skip ?_
        refine kn64 _ _ ?_
        refine seqK fun Q72 kn73 kr74 ke75 => ?_
        refine region ?_
        refine st_q (v := .float .f64 s) (x_move rfl) ?_
        refine st_q (v := .float .f64 s) (x_move rfl) ?_
        refine st_q (v := .slice al l.length cl) (x_move rfl) ?_
        refine st_q (v := .int .i64 ((l.length : Nat) : Int)) (x_lenSl rfl Tryd.underlying78 rfl) ?_
        refine st_q (v := .float .f64 ((fromInt (((l.length : Nat) : Int))))) (x_convF Tryd.underlying22 Tryd.underlying3 rfl) ?_
        refine st_e (e_quoF (a := s) (b := ((fromInt (((l.length : Nat) : Int))))) rfl rfl ?_)
        intro r76 w78 hr77 hx79
        have hF80 := hx79.e hx25 (Nat.le_refl _)
        have hE81 : Below w0.heap.size w0 w78 := hx79.e hE26 (Nat.le_refl _)
        have hz82 := hE81.le
        have hs83 := hx79.size
        refine st_q (v := .float .f64 s) (x_assign rfl) ?_
        refine st_q (v := .float .f64 r76) (x_assign rfl) ?_
        refine st_nil ?_
        refine kn73 _ _ ?_
        refine ret ?_
        refine leave2 (P := Tryd.prog) (fn := Tryd.f49) (t := 2) (u := 3) (v := .float .f64 s) (v' := .float .f64 r76) rfl rfl rfl ?_
        obtain rfl : i = l.length := by omega
        exact ⟨_, _, rfl, hE81, hs, hr77⟩

set_option maxHeartbeats 4000000 in
theorem filled37 (g : Grp) (l : List Nat) (vl : Value) (w0 : World) (hl : Src w0.heap vl l.length 1 (flat enF l)) (hsp : g.spread = 0) : Calls Tryd.prog 37 #[.agg (enG g).toArray, vl] w0 fun e w' => ∃ u : Grp, e = .returned (.agg (enG u).toArray) ∧ Ext w0 w' ∧ FillR l g u := by
  have hE0 : Below w0.heap.size w0 w0 := Below.refl _ _
  have hz0 := hE0.le
  obtain ⟨al, cl, rfl, hcl, hcl1⟩ := hl.form
  refine enter Tryd.func37 rfl 80 Tryd.ntmps37 rfl ?_
  refine seqK fun Q1 kn2 kr3 ke4 => ?_
  refine region ?_
  refine st_e (e_box (v := .agg #[.slice g.q g.key.length g.c, .int .i64 g.count, .int .i64 g.numbers, .float .f64 g.sum, .float .f64 g.mean, .float .f64 g.spread, .float .f64 g.least, .float .f64 g.greatest]) rfl ?_)
  intro w5 hA6
  have hx7 := hA6.ext
  have hs8 := hA6.size
  have hB9 : Blk w5.heap w0.heap.size [.slice g.q g.key.length g.c, .int .i64 g.count, .int .i64 g.numbers, .float .f64 g.sum, .float .f64 g.mean, .float .f64 g.spread, .float .f64 g.least, .float .f64 g.greatest] 44 := hA6.new
  have hE10 : Below w0.heap.size w0 w5 := hx7.e hE0 (Nat.le_refl _)
  have hz11 := hE10.le
  have hs12 := hx7.size
  refine st_e (e_alloc T.zv44 ?_)
  intro w13 hA14
  have hx15 := hA14.ext
  have hs16 := hA14.size
  have hB17 : Blk w13.heap w5.heap.size [.slice none 0 0, .int .i64 ((0 : Nat) : Int), .int .i64 ((0 : Nat) : Int), .float .f64 0, .float .f64 0, .float .f64 0, .float .f64 0, .float .f64 0] 44 := hA14.new
  have hB18 := hB9.ext hx15
  have hE19 : Below w0.heap.size w0 w13 := hx15.e hE10 (Nat.le_refl _)
  have hz20 := hE19.le
  have hs21 := hx15.size
  refine st_nil ?_
  refine kn2 _ _ ?_
  refine seqK fun Q22 kn23 kr24 ke25 => ?_
  refine seqK fun Q26 kn27 kr28 ke29 => ?_
  refine region ?_
  refine st_q (v := .slice al l.length cl) (x_move rfl) ?_
  refine st_q (v := .int .i64 ((l.length : Nat) : Int)) (x_lenSl rfl Tryd.underlying78 rfl) ?_
  refine st_q (v := .bool (decide (l.length = 0))) (x_eqlN rfl rfl) ?_
  refine st_nil ?_
  refine kn27 _ _ ?_
  refine cnd (p := l.length = 0) rfl (fun h30 => ?_) (fun h30 => ?_)
  ·
    refine seqK fun Q31 kn32 kr33 ke34 => ?_
    refine region ?_
    refine st_q (v := .agg #[.slice g.q g.key.length g.c, .int .i64 g.count, .int .i64 g.numbers, .float .f64 g.sum, .float .f64 g.mean, .float .f64 g.spread, .float .f64 g.least, .float .f64 g.greatest]) (x_loadA [.slice g.q g.key.length g.c, .int .i64 g.count, .int .i64 g.numbers, .float .f64 g.sum, .float .f64 g.mean, .float .f64 g.spread, .float .f64 g.least, .float .f64 g.greatest] T.ag44 rfl (hB18.cells 0 [.slice g.q g.key.length g.c, .int .i64 g.count, .int .i64 g.numbers, .float .f64 g.sum, .float .f64 g.mean, .float .f64 g.spread, .float .f64 g.least, .float .f64 g.greatest] (cells_at rfl))) ?_
    refine st_s (e_st (v := .agg #[.slice g.q g.key.length g.c, .int .i64 g.count, .int .i64 g.numbers, .float .f64 g.sum, .float .f64 g.mean, .float .f64 g.spread, .float .f64 g.least, .float .f64 g.greatest]) T.sz44 rfl rfl hB17 (by simp [Value.cells]) (by rfl) ?_)
    intro w35 hP36
    have hB37 : Blk w35.heap w5.heap.size [.slice g.q g.key.length g.c, .int .i64 g.count, .int .i64 g.numbers, .float .f64 g.sum, .float .f64 g.mean, .float .f64 g.spread, .float .f64 g.least, .float .f64 g.greatest] 44 := hP36.new
    have hs38 := hP36.size
    have hB39 := hB18.pt hP36 (by omega)
    have hE40 : Below w0.heap.size w0 w35 := hP36.below hE19 (by omega)
    have hz41 := hE40.le
    refine st_nil ?_
    refine kn32 _ _ ?_
    refine ret ?_
    refine kr24 _ _ ?_
    refine leaveC (P := Tryd.prog) (fn := Tryd.f37) (t := 4) (T := 44) (b := w5.heap.size) (o := 0) (cs := [.slice g.q g.key.length g.c, .int .i64 g.count, .int .i64 g.numbers, .float .f64 g.sum, .float .f64 g.mean, .float .f64 g.spread, .float .f64 g.least, .float .f64 g.greatest]) rfl T.ag44 rfl (hB37.cells 0 [.slice g.q g.key.length g.c, .int .i64 g.count, .int .i64 g.numbers, .float .f64 g.sum, .float .f64 g.mean, .float .f64 g.spread, .float .f64 g.least, .float .f64 g.greatest] (cells_at rfl)) ?_
    exact ⟨g, rfl, hE40, by unfold FillR; rw [if_pos (by assumption)]⟩
  ·
    refine skip ?_
    refine kn23 _ _ ?_
    refine seqK fun Q42 kn43 kr44 ke45 => ?_
    refine region ?_
    refine st_q (v := .slice al l.length cl) (x_move rfl) ?_
    refine st_q (v := .int .i64 ((l.length : Nat) : Int)) (x_lenSl rfl Tryd.underlying78 rfl) ?_
    refine st_q (v := .pointer (some ⟨w0.heap.size, 2, none⟩)) (x_field (o := 0) T.fa44_2 rfl) ?_
    refine st_s (e_st (v := .int .i64 ((l.length : Nat) : Int)) T.sz3 rfl rfl hB18 (by simp [Value.cells]) (by rfl) ?_)
    intro w46 hP47
    have hB48 : Blk w46.heap w0.heap.size [.slice g.q g.key.length g.c, .int .i64 g.count, .int .i64 ((l.length : Nat) : Int), .float .f64 g.sum, .float .f64 g.mean, .float .f64 g.spread, .float .f64 g.least, .float .f64 g.greatest] 44 := hP47.new
    have hs49 := hP47.size
    have hB50 := hB17.pt hP47 (by omega)
    have hE51 : Below w0.heap.size w0 w46 := hP47.below hE19 (by omega)
    have hz52 := hE51.le
    refine st_nil ?_
    refine kn43 _ _ ?_
    refine seqK fun Q53 kn54 kr55 ke56 => ?_
    refine region ?_
    refine st_q (v := .slice al l.length cl) (x_move rfl) ?_
    refine st_c (t_call [.slice al l.length cl] T.cf49 rfl rfl) (mean49 l _ _ (hl.below hE51) (by omega)) ?_
    rintro _ w57 ⟨s, m, rfl, hx58, hs, hm⟩
    refine ⟨_, rfl, ?_⟩
    have hB59 := hB50.ext hx58
    have hB60 := hB48.ext hx58
    have hE61 : Below w0.heap.size w0 w57 := hx58.e hE51 (Nat.le_refl _)
    have hz62 := hE61.le
    have hs63 := hx58.size
    refine st_q (v := .tuple #[.float .f64 s, .float .f64 m]) (x_move rfl) ?_
    refine st_q (v := .float .f64 s) (x_extract rfl rfl) ?_
    refine st_q (v := .float .f64 m) (x_extract rfl rfl) ?_
    refine st_q (v := .pointer (some ⟨w0.heap.size, 3, none⟩)) (x_field (o := 0) T.fa44_3 rfl) ?_
    refine st_s (e_st (v := .float .f64 s) T.sz22 rfl rfl hB60 (by simp [Value.cells]) (by rfl) ?_)
    intro w64 hP65
    have hB66 : Blk w64.heap w0.heap.size [.slice g.q g.key.length g.c, .int .i64 g.count, .int .i64 ((l.length : Nat) : Int), .float .f64 s, .float .f64 g.mean, .float .f64 g.spread, .float .f64 g.least, .float .f64 g.greatest] 44 := hP65.new
    have hs67 := hP65.size
    have hB68 := hB59.pt hP65 (by omega)
    have hE69 : Below w0.heap.size w0 w64 := hP65.below hE61 (by omega)
    have hz70 := hE69.le
    refine st_q (v := .pointer (some ⟨w0.heap.size, 4, none⟩)) (x_field (o := 0) T.fa44_4 rfl) ?_
    refine st_s (e_st (v := .float .f64 m) T.sz22 rfl rfl hB66 (by simp [Value.cells]) (by rfl) ?_)
    intro w71 hP72
    have hB73 : Blk w71.heap w0.heap.size [.slice g.q g.key.length g.c, .int .i64 g.count, .int .i64 ((l.length : Nat) : Int), .float .f64 s, .float .f64 m, .float .f64 g.spread, .float .f64 g.least, .float .f64 g.greatest] 44 := hP72.new
    have hs74 := hP72.size
    have hB75 := hB68.pt hP72 (by omega)
    have hE76 : Below w0.heap.size w0 w71 := hP72.below hE69 (by omega)
    have hz77 := hE76.le
    refine st_nil ?_
    refine kn54 _ _ ?_
    refine seqK fun Q78 kn79 kr80 ke81 => ?_
    refine regionM1 (fun k => k = w0.heap.size) [2, 5] [0, 1, 2, 3, 4, 5, 6, 8] (.one 0 (.one 1 (.one 2 (.one 3 (.one 4 (.one 5 (.one 6 (.one 7 (.one 8 (.one 9 .done)))))))))) (by kernel_rfl) (by kernel_rfl) ?_
    intro w82 hx83 hs84
    have hB85 := hB75.ext hx83
    have hB86 := hB73.ext hx83
    have hE87 : Below w0.heap.size w0 w82 := hx83.e hE76 (Nat.le_refl _)
    have hz88 := hE87.le
    have hs89 := hx83.size
    have hS90 : Mod (fun k => k = w0.heap.size) w82 w82 := Mod.refl _ _
    refine d_q (v := .slice al l.length cl) rfl rfl (fun _ => x_move rfl) ?_
    obtain ⟨b91, o92, ha93, hc94⟩ := hl.at (by omega)
    refine d_q (v := .pointer (some ⟨b91, o92 + 0 * 1, none⟩)) rfl rfl (fun _ => x_index' T.sl78 rfl ha93 rfl (by omega)) ?_
    refine d_l (v := .float .f64 ((el l 0))) rfl rfl rfl (fun v96 hw95 => x_load1 T.na22 rfl (Cells.keep ((hc94.below hE87).elem enF_len (i := 0) (by omega)) (hw95.block _ (Cells.lt ((hc94.below hE87).elem enF_len (i := 0) (by omega))) (fun e => by have e : b91 = w0.heap.size := e; have h2 := Cells.lt hc94; omega)))) ?_
    refine d_q (v := .slice al l.length cl) rfl rfl (fun _ => x_move rfl) ?_
    refine d_q (v := .pointer (some ⟨b91, o92 + 0 * 1, none⟩)) rfl rfl (fun _ => x_index' T.sl78 rfl ha93 rfl (by omega)) ?_
    refine d_l (v := .float .f64 ((el l 0))) rfl rfl rfl (fun v98 hw97 => x_load1 T.na22 rfl (Cells.keep ((hc94.below hE87).elem enF_len (i := 0) (by omega)) (hw97.block _ (Cells.lt ((hc94.below hE87).elem enF_len (i := 0) (by omega))) (fun e => by have e : b91 = w0.heap.size := e; have h2 := Cells.lt hc94; omega)))) ?_
    refine d_q (v := .pointer (some ⟨w0.heap.size, 6, none⟩)) rfl rfl (fun _ => x_field (o := 0) T.fa44_6 rfl) ?_
    refine d_e (by decide) (d_s' rfl rfl (e_st (v := .float .f64 ((el l 0))) T.sz22 rfl rfl hB86 (by simp [Value.cells]) (by rfl) ?_))
    intro w99 hP100
    have hB101 : Blk w99.heap w0.heap.size [.slice g.q g.key.length g.c, .int .i64 g.count, .int .i64 ((l.length : Nat) : Int), .float .f64 s, .float .f64 m, .float .f64 g.spread, .float .f64 ((el l 0)), .float .f64 g.greatest] 44 := hP100.new
    have hs102 := hP100.size
    have hB103 := hB85.pt hP100 (by omega)
    have hE104 : Below w0.heap.size w0 w99 := hP100.below hE87 (by omega)
    have hz105 := hE104.le
    have hS106 := hS90.pt hP100 (.inl rfl)
    refine ⟨fun _ => hS106, ?_⟩
    refine d_q (v := .pointer (some ⟨w0.heap.size, 7, none⟩)) rfl rfl (fun _ => x_field (o := 0) T.fa44_7 rfl) ?_
    refine d_e (by decide) (d_s' rfl rfl (e_st (v := .float .f64 ((el l 0))) T.sz22 rfl rfl hB101 (by simp [Value.cells]) (by rfl) ?_))
    intro w107 hP108
    have hB109 : Blk w107.heap w0.heap.size [.slice g.q g.key.length g.c, .int .i64 g.count, .int .i64 ((l.length : Nat) : Int), .float .f64 s, .float .f64 m, .float .f64 g.spread, .float .f64 ((el l 0)), .float .f64 ((el l 0))] 44 := hP108.new
    have hs110 := hP108.size
    have hB111 := hB103.pt hP108 (by omega)
    have hE112 : Below w0.heap.size w0 w107 := hP108.below hE104 (by omega)
    have hz113 := hE112.le
    have hS114 := hS106.pt hP108 (.inl rfl)
    refine ⟨fun _ => hS114, ?_⟩
    refine d_done ?_
    refine kn79 _ _ ?_
    refine seqK fun Q115 kn116 kr117 ke118 => ?_
    refine region ?_
    refine st_q (v := .float .f64 0) (x_assign rfl) ?_
    refine st_nil ?_
    refine kn116 _ _ ?_
    refine seqK fun Q119 kn120 kr121 ke122 => ?_
    refine seqK fun Q123 kn124 kr125 ke126 => ?_
    refine region ?_
    refine st_q (v := .int .i64 ((0 : Nat) : Int)) (x_assign rfl) ?_
    refine st_nil ?_
    refine kn124 _ _ ?_
    refine blockK fun Q127 kn128 kr129 kx130 kb131 => ?_
    refine loopK (α := Nat × Nat) (fun x => [(1, .slice al l.length cl), (2, .pointer (some ⟨w0.heap.size, 0, none⟩)), (4, .pointer (some ⟨w5.heap.size, 0, none⟩)), (5, .float .f64 x.2), (6, .int .i64 ((x.1 : Nat) : Int))]) (fun x w132 => Below w0.heap.size w0 w132 ∧ x.1 ≤ l.length ∧ SqTo m 0 l x.1 x.2 ∧ Blk w132.heap w0.heap.size [.slice g.q g.key.length g.c, .int .i64 g.count, .int .i64 ((l.length : Nat) : Int), .float .f64 s, .float .f64 m, .float .f64 g.spread, .float .f64 ((minR l x.1)), .float .f64 ((maxR l x.1))] 44 ∧ Blk w132.heap w5.heap.size [.slice none 0 0, .int .i64 ((0 : Nat) : Int), .int .i64 ((0 : Nat) : Int), .float .f64 0, .float .f64 0, .float .f64 0, .float .f64 0, .float .f64 0] 44) (fun x => l.length - x.1) (0, 0) ⟨rfl, rfl, rfl, rfl, rfl, trivial⟩ ?_ ?_
    ·
      refine ⟨hE112, ?_⟩
      try dsimp only
      exact ⟨Nat.zero_le _, rfl, hB109, hB111⟩
    ·
      rintro τ133 ⟨i, q⟩ w134 ⟨hx135, ⟨hi, hq, hB2, hB4⟩⟩
      try dsimp only at hi hq hB2 hB4
      have hz136 := hx135.le
      intro Q137 kn138 kr139 ke140
      refine seqK fun Q141 kn142 kr143 ke144 => ?_
      refine seqK fun Q145 kn146 kr147 ke148 => ?_
      refine region ?_
      refine st_q (v := .int .i64 ((i : Nat) : Int)) (x_move rfl) ?_
      refine st_q (v := .slice al l.length cl) (x_move rfl) ?_
      refine st_q (v := .int .i64 ((l.length : Nat) : Int)) (x_lenSl rfl Tryd.underlying78 rfl) ?_
      refine st_q (v := .bool (decide (i < l.length))) (x_lssN rfl rfl) ?_
      refine st_nil ?_
      refine kn146 _ _ ?_
      refine cnd (p := i < l.length) rfl (fun h149 => ?_) (fun h149 => ?_)
      ·
        refine skip ?_
        refine kn142 _ _ ?_
        refine seqK fun Q150 kn151 kr152 ke153 => ?_
        refine blockK fun Q154 kn155 kr156 kx157 kb158 => ?_
        refine seqK fun Q159 kn160 kr161 ke162 => ?_
        refine regionD1 [3, 5] [0, 1, 2, 3, 4, 5, 7] (.one 0 (.one 1 (.one 2 (.one 3 (.one 4 (.one 5 (.one 6 (.one 7 .done)))))))) (by kernel_rfl) (by kernel_rfl) ?_
        intro w163 hx164 hs165
        have hB166 := hB2.ext hx164
        have hB167 := hB4.ext hx164
        have hE168 : Below w0.heap.size w0 w163 := hx164.e hx135 (Nat.le_refl _)
        have hz169 := hE168.le
        have hs170 := hx164.size
        have hS171 : Ext w163 w163 := Below.refl _ _
        refine d_q (v := .slice al l.length cl) rfl rfl (fun _ => x_move rfl) ?_
        refine d_q (v := .int .i64 ((i : Nat) : Int)) rfl rfl (fun _ => x_move rfl) ?_
        refine d_q (v := .pointer (some ⟨b91, o92 + i * 1, none⟩)) rfl rfl (fun _ => x_index' T.sl78 rfl ha93 rfl (by omega)) ?_
        refine d_l (v := .float .f64 ((el l i))) rfl rfl rfl (fun v173 hw172 => x_load1 T.na22 rfl (((hc94.below hE168).elem enF_len (i := i) (by omega)).ext hw172)) ?_
        refine d_q (v := .pointer (some ⟨w0.heap.size, 4, none⟩)) rfl rfl (fun _ => x_field (o := 0) T.fa44_4 rfl) ?_
        refine d_l (v := .float .f64 m) rfl rfl rfl (fun v175 hw174 => x_load1 T.na22 rfl ((hB166.one 4 rfl).ext hw174)) ?_
        refine d_e (by decide) (d_e' rfl rfl (e_subF (a := ((el l i))) (b := m) rfl rfl ?_))
        intro r176 w178 hr177 hx179
        have hB180 := hB166.ext hx179
        have hB181 := hB167.ext hx179
        have hE182 : Below w0.heap.size w0 w178 := hx179.e hE168 (Nat.le_refl _)
        have hz183 := hE182.le
        have hs184 := hx179.size
        have hS185 := hS171.trans (hx179.mono hS171.size)
        refine ⟨fun _ => hS185, ?_⟩
        refine d_q (v := .float .f64 r176) rfl rfl (fun _ => x_assign rfl) ?_
        refine d_done ?_
        refine kn160 _ _ ?_
        refine seqK fun Q186 kn187 kr188 ke189 => ?_
        refine region ?_
        refine st_q (v := .float .f64 q) (x_move rfl) ?_
        refine st_q (v := .float .f64 r176) (x_move rfl) ?_
        refine st_q (v := .float .f64 r176) (x_move rfl) ?_
        refine st_e (e_mulF (a := r176) (b := r176) rfl rfl ?_)
        intro r190 w192 hr191 hx193
        have hB194 := hB180.ext hx193
        have hB195 := hB181.ext hx193
        have hE196 : Below w0.heap.size w0 w192 := hx193.e hE182 (Nat.le_refl _)
        have hz197 := hE196.le
        have hs198 := hx193.size
        refine st_e (e_addF (a := q) (b := r190) rfl rfl ?_)
        intro r199 w201 hr200 hx202
        have hB203 := hB194.ext hx202
        have hB204 := hB195.ext hx202
        have hE205 : Below w0.heap.size w0 w201 := hx202.e hE196 (Nat.le_refl _)
        have hz206 := hE205.le
        have hs207 := hx202.size
        refine st_q (v := .float .f64 r199) (x_assign rfl) ?_
        refine st_nil ?_
        refine kn187 _ _ ?_
        refine seqK fun Q208 kn209 kr210 ke211 => ?_
        refine seqK fun Q212 kn213 kr214 ke215 => ?_
        refine regionD1 [3, 5] [0, 1, 2, 3, 4, 5, 6] (.one 0 (.one 1 (.one 2 (.one 3 (.one 4 (.one 5 (.one 6 .done))))))) (by kernel_rfl) (by kernel_rfl) ?_
        intro w216 hx217 hs218
        have hB219 := hB203.ext hx217
        have hB220 := hB204.ext hx217
        have hE221 : Below w0.heap.size w0 w216 := hx217.e hE205 (Nat.le_refl _)
        have hz222 := hE221.le
        have hs223 := hx217.size
        have hS224 : Ext w216 w216 := Below.refl _ _
        refine d_q (v := .slice al l.length cl) rfl rfl (fun _ => x_move rfl) ?_
        refine d_q (v := .int .i64 ((i : Nat) : Int)) rfl rfl (fun _ => x_move rfl) ?_
        refine d_q (v := .pointer (some ⟨b91, o92 + i * 1, none⟩)) rfl rfl (fun _ => x_index' T.sl78 rfl ha93 rfl (by omega)) ?_
        refine d_l (v := .float .f64 ((el l i))) rfl rfl rfl (fun v226 hw225 => x_load1 T.na22 rfl (((hc94.below hE221).elem enF_len (i := i) (by omega)).ext hw225)) ?_
        refine d_q (v := .pointer (some ⟨w0.heap.size, 6, none⟩)) rfl rfl (fun _ => x_field (o := 0) T.fa44_6 rfl) ?_
        refine d_l (v := .float .f64 ((minR l i))) rfl rfl rfl (fun v228 hw227 => x_load1 T.na22 rfl ((hB219.one 6 rfl).ext hw227)) ?_
        refine d_q (v := .bool (decide (Flt.D.order ((el l i)) ((minR l i)) = some .lt))) rfl rfl (fun _ => x_lssF rfl rfl) ?_
        refine d_done ?_
        refine kn213 _ _ ?_
        refine cnd (p := Flt.D.order ((el l i)) ((minR l i)) = some .lt) rfl (fun h229 => ?_) (fun h229 => ?_)
        ·
          refine region ?_
          refine st_q (v := .slice al l.length cl) (x_move rfl) ?_
          refine st_q (v := .int .i64 ((i : Nat) : Int)) (x_move rfl) ?_
          refine st_q (v := .pointer (some ⟨b91, o92 + i * 1, none⟩)) (x_index' T.sl78 rfl ha93 rfl (by omega)) ?_
          refine st_q (v := .float .f64 ((el l i))) (x_load1 T.na22 rfl ((hc94.below hE221).elem enF_len (i := i) (by omega))) ?_
          refine st_q (v := .pointer (some ⟨w0.heap.size, 6, none⟩)) (x_field (o := 0) T.fa44_6 rfl) ?_
          refine st_s (e_st (v := .float .f64 ((el l i))) T.sz22 rfl rfl hB219 (by simp [Value.cells]) (by rfl) ?_)
          intro w230 hP231
          have hB232 : Blk w230.heap w0.heap.size [.slice g.q g.key.length g.c, .int .i64 g.count, .int .i64 ((l.length : Nat) : Int), .float .f64 s, .float .f64 m, .float .f64 g.spread, .float .f64 ((el l i)), .float .f64 ((maxR l i))] 44 := hP231.new
          have hs233 := hP231.size
          have hB234 := hB220.pt hP231 (by omega)
          have hE235 : Below w0.heap.size w0 w230 := hP231.below hE221 (by omega)
          have hz236 := hE235.le
          refine st_nil ?_
          refine kn209 _ _ ?_
          refine seqK fun Q237 kn238 kr239 ke240 => ?_
          refine regionD1 [3, 5] [0, 1, 2, 3, 4, 5, 6] (.one 0 (.one 1 (.one 2 (.one 3 (.one 4 (.one 5 (.one 6 .done))))))) (by kernel_rfl) (by kernel_rfl) ?_
          intro w241 hx242 hs243
          have hB244 := hB234.ext hx242
          have hB245 := hB232.ext hx242
          have hE246 : Below w0.heap.size w0 w241 := hx242.e hE235 (Nat.le_refl _)
          have hz247 := hE246.le
          have hs248 := hx242.size
          have hS249 : Ext w241 w241 := Below.refl _ _
          refine d_q (v := .slice al l.length cl) rfl rfl (fun _ => x_move rfl) ?_
          refine d_q (v := .int .i64 ((i : Nat) : Int)) rfl rfl (fun _ => x_move rfl) ?_
          refine d_q (v := .pointer (some ⟨b91, o92 + i * 1, none⟩)) rfl rfl (fun _ => x_index' T.sl78 rfl ha93 rfl (by omega)) ?_
          refine d_l (v := .float .f64 ((el l i))) rfl rfl rfl (fun v251 hw250 => x_load1 T.na22 rfl (((hc94.below hE246).elem enF_len (i := i) (by omega)).ext hw250)) ?_
          refine d_q (v := .pointer (some ⟨w0.heap.size, 7, none⟩)) rfl rfl (fun _ => x_field (o := 0) T.fa44_7 rfl) ?_
          refine d_l (v := .float .f64 ((maxR l i))) rfl rfl rfl (fun v253 hw252 => x_load1 T.na22 rfl ((hB245.one 7 rfl).ext hw252)) ?_
          refine d_q (v := .bool (decide (Flt.D.order ((el l i)) ((maxR l i)) = some .gt))) rfl rfl (fun _ => x_gtrF rfl rfl) ?_
          refine d_done ?_
          refine kn238 _ _ ?_
          refine cnd (p := Flt.D.order ((el l i)) ((maxR l i)) = some .gt) rfl (fun h254 => ?_) (fun h254 => ?_)
          ·
            refine region ?_
            refine st_q (v := .slice al l.length cl) (x_move rfl) ?_
            refine st_q (v := .int .i64 ((i : Nat) : Int)) (x_move rfl) ?_
            refine st_q (v := .pointer (some ⟨b91, o92 + i * 1, none⟩)) (x_index' T.sl78 rfl ha93 rfl (by omega)) ?_
            refine st_q (v := .float .f64 ((el l i))) (x_load1 T.na22 rfl ((hc94.below hE246).elem enF_len (i := i) (by omega))) ?_
            refine st_q (v := .pointer (some ⟨w0.heap.size, 7, none⟩)) (x_field (o := 0) T.fa44_7 rfl) ?_
            refine st_s (e_st (v := .float .f64 ((el l i))) T.sz22 rfl rfl hB245 (by simp [Value.cells]) (by rfl) ?_)
            intro w255 hP256
            have hB257 : Blk w255.heap w0.heap.size [.slice g.q g.key.length g.c, .int .i64 g.count, .int .i64 ((l.length : Nat) : Int), .float .f64 s, .float .f64 m, .float .f64 g.spread, .float .f64 ((el l i)), .float .f64 ((el l i))] 44 := hP256.new
            have hs258 := hP256.size
            have hB259 := hB244.pt hP256 (by omega)
            have hE260 : Below w0.heap.size w0 w255 := hP256.below hE246 (by omega)
            have hz261 := hE260.le
            refine st_nil ?_
            refine kn155 _ _ ?_
            refine kn151 _ _ ?_
            refine region ?_
            refine st_q (v := .int .i64 ((i : Nat) : Int)) (x_move rfl) ?_
            refine st_q (v := .int .i64 (((i + 1) : Nat) : Int)) (x_addN rfl rfl (by omega)) ?_
            refine st_q (v := .int .i64 (((i + 1) : Nat) : Int)) (x_assign rfl) ?_
            refine st_nil ?_
            refine kn138 _ ((i + 1), r199) _ ⟨rfl, rfl, rfl, rfl, rfl, trivial⟩ ⟨hE260, ?_⟩ ?_
            ·
              try dsimp only
              refine ⟨by omega, ⟨_, _, _, hq, hr177, hr191, hr200⟩, ?_, hB259⟩
              rw [minR_succ (by omega), maxR_succ (by omega), if_pos (by assumption), if_pos (by assumption)]
              exact hB257
            ·
              (try dsimp only); omega
          ·
            refine skip ?_
            refine kn155 _ _ ?_
            refine kn151 _ _ ?_
            refine region ?_
            refine st_q (v := .int .i64 ((i : Nat) : Int)) (x_move rfl) ?_
            refine st_q (v := .int .i64 (((i + 1) : Nat) : Int)) (x_addN rfl rfl (by omega)) ?_
            refine st_q (v := .int .i64 (((i + 1) : Nat) : Int)) (x_assign rfl) ?_
            refine st_nil ?_
            refine kn138 _ ((i + 1), r199) _ ⟨rfl, rfl, rfl, rfl, rfl, trivial⟩ ⟨hE246, ?_⟩ ?_
            ·
              try dsimp only
              refine ⟨by omega, ⟨_, _, _, hq, hr177, hr191, hr200⟩, ?_, hB244⟩
              rw [minR_succ (by omega), maxR_succ (by omega), if_pos (by assumption), if_neg (by assumption)]
              exact hB245
            ·
              (try dsimp only); omega
        ·
          refine skip ?_
          refine kn209 _ _ ?_
          refine seqK fun Q262 kn263 kr264 ke265 => ?_
          refine regionD1 [3, 5] [0, 1, 2, 3, 4, 5, 6] (.one 0 (.one 1 (.one 2 (.one 3 (.one 4 (.one 5 (.one 6 .done))))))) (by kernel_rfl) (by kernel_rfl) ?_
          intro w266 hx267 hs268
          have hB269 := hB219.ext hx267
          have hB270 := hB220.ext hx267
          have hE271 : Below w0.heap.size w0 w266 := hx267.e hE221 (Nat.le_refl _)
          have hz272 := hE271.le
          have hs273 := hx267.size
          have hS274 : Ext w266 w266 := Below.refl _ _
          refine d_q (v := .slice al l.length cl) rfl rfl (fun _ => x_move rfl) ?_
          refine d_q (v := .int .i64 ((i : Nat) : Int)) rfl rfl (fun _ => x_move rfl) ?_
          refine d_q (v := .pointer (some ⟨b91, o92 + i * 1, none⟩)) rfl rfl (fun _ => x_index' T.sl78 rfl ha93 rfl (by omega)) ?_
          refine d_l (v := .float .f64 ((el l i))) rfl rfl rfl (fun v276 hw275 => x_load1 T.na22 rfl (((hc94.below hE271).elem enF_len (i := i) (by omega)).ext hw275)) ?_
          refine d_q (v := .pointer (some ⟨w0.heap.size, 7, none⟩)) rfl rfl (fun _ => x_field (o := 0) T.fa44_7 rfl) ?_
          refine d_l (v := .float .f64 ((maxR l i))) rfl rfl rfl (fun v278 hw277 => x_load1 T.na22 rfl ((hB269.one 7 rfl).ext hw277)) ?_
          refine d_q (v := .bool (decide (Flt.D.order ((el l i)) ((maxR l i)) = some .gt))) rfl rfl (fun _ => x_gtrF rfl rfl) ?_
          refine d_done ?_
          refine kn263 _ _ ?_
          refine cnd (p := Flt.D.order ((el l i)) ((maxR l i)) = some .gt) rfl (fun h279 => ?_) (fun h279 => ?_)
          ·
            refine region ?_
            refine st_q (v := .slice al l.length cl) (x_move rfl) ?_
            refine st_q (v := .int .i64 ((i : Nat) : Int)) (x_move rfl) ?_
            refine st_q (v := .pointer (some ⟨b91, o92 + i * 1, none⟩)) (x_index' T.sl78 rfl ha93 rfl (by omega)) ?_
            refine st_q (v := .float .f64 ((el l i))) (x_load1 T.na22 rfl ((hc94.below hE271).elem enF_len (i := i) (by omega))) ?_
            refine st_q (v := .pointer (some ⟨w0.heap.size, 7, none⟩)) (x_field (o := 0) T.fa44_7 rfl) ?_
            refine st_s (e_st (v := .float .f64 ((el l i))) T.sz22 rfl rfl hB269 (by simp [Value.cells]) (by rfl) ?_)
            intro w280 hP281
            have hB282 : Blk w280.heap w0.heap.size [.slice g.q g.key.length g.c, .int .i64 g.count, .int .i64 ((l.length : Nat) : Int), .float .f64 s, .float .f64 m, .float .f64 g.spread, .float .f64 ((minR l i)), .float .f64 ((el l i))] 44 := hP281.new
            have hs283 := hP281.size
            have hB284 := hB270.pt hP281 (by omega)
            have hE285 : Below w0.heap.size w0 w280 := hP281.below hE271 (by omega)
            have hz286 := hE285.le
            refine st_nil ?_
            refine kn155 _ _ ?_
            refine kn151 _ _ ?_
            refine region ?_
            refine st_q (v := .int .i64 ((i : Nat) : Int)) (x_move rfl) ?_
            refine st_q (v := .int .i64 (((i + 1) : Nat) : Int)) (x_addN rfl rfl (by omega)) ?_
            refine st_q (v := .int .i64 (((i + 1) : Nat) : Int)) (x_assign rfl) ?_
            refine st_nil ?_
            refine kn138 _ ((i + 1), r199) _ ⟨rfl, rfl, rfl, rfl, rfl, trivial⟩ ⟨hE285, ?_⟩ ?_
            ·
              try dsimp only
              refine ⟨by omega, ⟨_, _, _, hq, hr177, hr191, hr200⟩, ?_, hB284⟩
              rw [minR_succ (by omega), maxR_succ (by omega), if_neg (by assumption), if_pos (by assumption)]
              exact hB282
            ·
              (try dsimp only); omega
          ·
            refine skip ?_
            refine kn155 _ _ ?_
            refine kn151 _ _ ?_
            refine region ?_
            refine st_q (v := .int .i64 ((i : Nat) : Int)) (x_move rfl) ?_
            refine st_q (v := .int .i64 (((i + 1) : Nat) : Int)) (x_addN rfl rfl (by omega)) ?_
            refine st_q (v := .int .i64 (((i + 1) : Nat) : Int)) (x_assign rfl) ?_
            refine st_nil ?_
            refine kn138 _ ((i + 1), r199) _ ⟨rfl, rfl, rfl, rfl, rfl, trivial⟩ ⟨hE271, ?_⟩ ?_
            ·
              try dsimp only
              refine ⟨by omega, ⟨_, _, _, hq, hr177, hr191, hr200⟩, ?_, hB270⟩
              rw [minR_succ (by omega), maxR_succ (by omega), if_neg (by assumption), if_neg (by assumption)]
              exact hB269
            ·
              (try dsimp only); omega
      ·
        refine exit ?_
        refine ke144 _ _ _ ?_
        refine ke140 _ _ _ ?_
        refine kb131 _ _ ?_
        refine kn120 _ _ ?_
        refine seqK fun Q287 kn288 kr289 ke290 => ?_
        refine region ?_
        refine st_q (v := .float .f64 q) (x_move rfl) ?_
        refine st_q (v := .slice al l.length cl) (x_move rfl) ?_
        refine st_q (v := .int .i64 ((l.length : Nat) : Int)) (x_lenSl rfl Tryd.underlying78 rfl) ?_
        refine st_q (v := .float .f64 ((fromInt (((l.length : Nat) : Int))))) (x_convF Tryd.underlying22 Tryd.underlying3 rfl) ?_
        refine st_e (e_quoF (a := q) (b := ((fromInt (((l.length : Nat) : Int))))) rfl rfl ?_)
        intro r291 w293 hr292 hx294
        have hB295 := hB2.ext hx294
        have hB296 := hB4.ext hx294
        have hE297 : Below w0.heap.size w0 w293 := hx294.e hx135 (Nat.le_refl _)
        have hz298 := hE297.le
        have hs299 := hx294.size
        refine st_c (t_call [.float .f64 r291] T.cf56 rfl rfl) (sqrt56 r291 _) ?_
        rintro _ w302 ⟨r300, rfl, hr301, hx303⟩
        refine ⟨_, rfl, ?_⟩
        have hB304 := hB295.ext hx303
        have hB305 := hB296.ext hx303
        have hE306 : Below w0.heap.size w0 w302 := hx303.e hE297 (Nat.le_refl _)
        have hz307 := hE306.le
        have hs308 := hx303.size
        refine st_q (v := .pointer (some ⟨w0.heap.size, 5, none⟩)) (x_field (o := 0) T.fa44_5 rfl) ?_
        refine st_s (e_st (v := .float .f64 r300) T.sz22 rfl rfl hB304 (by simp [Value.cells]) (by rfl) ?_)
        intro w309 hP310
        have hB311 : Blk w309.heap w0.heap.size [.slice g.q g.key.length g.c, .int .i64 g.count, .int .i64 ((l.length : Nat) : Int), .float .f64 s, .float .f64 m, .float .f64 r300, .float .f64 ((minR l i)), .float .f64 ((maxR l i))] 44 := hP310.new
        have hs312 := hP310.size
        have hB313 := hB305.pt hP310 (by omega)
        have hE314 : Below w0.heap.size w0 w309 := hP310.below hE306 (by omega)
        have hz315 := hE314.le
        refine st_nil ?_
        refine kn288 _ _ ?_
        refine seqK fun Q316 kn317 kr318 ke319 => ?_
        refine region ?_
        refine st_q (v := .agg #[.slice g.q g.key.length g.c, .int .i64 g.count, .int .i64 ((l.length : Nat) : Int), .float .f64 s, .float .f64 m, .float .f64 r300, .float .f64 ((minR l i)), .float .f64 ((maxR l i))]) (x_loadA [.slice g.q g.key.length g.c, .int .i64 g.count, .int .i64 ((l.length : Nat) : Int), .float .f64 s, .float .f64 m, .float .f64 r300, .float .f64 ((minR l i)), .float .f64 ((maxR l i))] T.ag44 rfl (hB311.cells 0 [.slice g.q g.key.length g.c, .int .i64 g.count, .int .i64 ((l.length : Nat) : Int), .float .f64 s, .float .f64 m, .float .f64 r300, .float .f64 ((minR l i)), .float .f64 ((maxR l i))] (cells_at rfl))) ?_
        refine st_s (e_st (v := .agg #[.slice g.q g.key.length g.c, .int .i64 g.count, .int .i64 ((l.length : Nat) : Int), .float .f64 s, .float .f64 m, .float .f64 r300, .float .f64 ((minR l i)), .float .f64 ((maxR l i))]) T.sz44 rfl rfl hB313 (by simp [Value.cells]) (by rfl) ?_)
        intro w320 hP321
        have hB322 : Blk w320.heap w5.heap.size [.slice g.q g.key.length g.c, .int .i64 g.count, .int .i64 ((l.length : Nat) : Int), .float .f64 s, .float .f64 m, .float .f64 r300, .float .f64 ((minR l i)), .float .f64 ((maxR l i))] 44 := hP321.new
        have hs323 := hP321.size
        have hB324 := hB311.pt hP321 (by omega)
        have hE325 : Below w0.heap.size w0 w320 := hP321.below hE314 (by omega)
        have hz326 := hE325.le
        refine st_nil ?_
        refine kn317 _ _ ?_
        refine ret ?_
        refine leaveC (P := Tryd.prog) (fn := Tryd.f37) (t := 4) (T := 44) (b := w5.heap.size) (o := 0) (cs := [.slice g.q g.key.length g.c, .int .i64 g.count, .int .i64 ((l.length : Nat) : Int), .float .f64 s, .float .f64 m, .float .f64 r300, .float .f64 ((minR l i)), .float .f64 ((maxR l i))]) rfl T.ag44 rfl (hB322.cells 0 [.slice g.q g.key.length g.c, .int .i64 g.count, .int .i64 ((l.length : Nat) : Int), .float .f64 s, .float .f64 m, .float .f64 r300, .float .f64 ((minR l i)), .float .f64 ((maxR l i))] (cells_at rfl)) ?_
        obtain rfl : i = l.length := by omega
        refine ⟨({ g with numbers := ((l.length : Nat) : Int), sum := s, mean := m, spread := r300, least := minR l l.length, greatest := maxR l l.length } : Grp), rfl, hE325, ?_⟩
        unfold FillR; rw [if_neg (by assumption)]
        exact ⟨s, m, q, _, _, hs, hm, hq, hr292, hr301, rfl⟩

set_option maxHeartbeats 4000000 in
theorem numbers38 (ar : Int) (R : List Row) (va : Value) (c : Nat) (ls : List Int) (vb : Value) (key : Tup) (vk : Value) (w0 : World) (ha : Src w0.heap va R.length 1 (flat enR R)) (hR : RowsP w0.heap R) (hb : Src w0.heap vb ls.length 1 (flat enI ls)) (hk : Src w0.heap vk key.length 1 (flat enS key)) (hlen : ∀ x ∈ R, (x.2.length : Int) = ar) (hG : RightR ar (tp R) ∧ ColsOK ar ls) (hC : badC ar ((c : Nat) : Int) = false) (hsz : SizeL R) (hn : R.length ≤ 1466015503701) : Calls Tryd.prog 38 #[va, .int .i64 ((c : Nat) : Int), vb, vk] w0 fun e w' => ∃ v, e = .returned v ∧ Ext w0 w' ∧ Own w'.heap w0.heap.size 22 1 v (numsL c ((tp R).filter (fun t => decide (cutL t ls = key)))).length (flat enF (numsL c ((tp R).filter (fun t => decide (cutL t ls = key))))) := by
  have hE0 : Below w0.heap.size w0 w0 := Below.refl _ _
  have hz0 := hE0.le
  obtain ⟨a, ca, rfl, hca, hca1⟩ := ha.form
  obtain ⟨b, cb, rfl, hcb, hcb1⟩ := hb.form
  obtain ⟨k, ck, rfl, hck, hck1⟩ := hk.form
  have hC2 : c < 16 ∧ ((c : Nat) : Int) < ar := by
    unfold badC at hC
    have h2 := of_decide_eq_false hC
    have := hG.1.2.2
    omega
  have hcin : ∀ i, i < ls.length → 0 ≤ el ls i ∧ el ls i < ar := fun i hi => by
    have h1 := (hG.2 i hi).1
    unfold badC at h1
    have h2 := of_decide_eq_false h1
    omega
  have hcl : ls.length ≤ 16 := cols_len hG.2 hG.1.2.2
  refine enter Tryd.func38 rfl 46 Tryd.ntmps38 rfl ?_
  refine seqK fun Q1 kn2 kr3 ke4 => ?_
  refine region ?_
  refine st_q (v := .slice none 0 0) (x_assign rfl) ?_
  refine st_nil ?_
  refine kn2 _ _ ?_
  refine seqK fun Q5 kn6 kr7 ke8 => ?_
  refine region ?_
  refine st_q (v := .slice none 0 0) (x_assign rfl) ?_
  refine st_nil ?_
  refine kn6 _ _ ?_
  refine seqK fun Q9 kn10 kr11 ke12 => ?_
  refine seqK fun Q13 kn14 kr15 ke16 => ?_
  refine region ?_
  refine st_q (v := .int .i64 ((0 : Nat) : Int)) (x_assign rfl) ?_
  refine st_nil ?_
  refine kn14 _ _ ?_
  refine blockK fun Q17 kn18 kr19 kx20 kb21 => ?_
  refine loopK (α := Nat × Value) (fun x => [(0, .slice a R.length ca), (1, .int .i64 ((c : Nat) : Int)), (2, .slice b ls.length cb), (3, .slice k key.length ck), (9, x.2), (10, .int .i64 ((x.1 : Nat) : Int))]) (fun x w22 => Below w0.heap.size w0 w22 ∧ x.1 ≤ R.length ∧ Own w22.heap w0.heap.size 22 1 x.2 (numsL c ((tp (R.take x.1)).filter (fun t => decide (cutL t ls = key)))).length (flat enF (numsL c ((tp (R.take x.1)).filter (fun t => decide (cutL t ls = key)))))) (fun x => R.length - x.1) (0, .slice none 0 0) ⟨rfl, rfl, rfl, rfl, rfl, rfl, trivial⟩ ?_ ?_
  ·
    refine ⟨hE0, ?_⟩
    try dsimp only
    exact ⟨Nat.zero_le _, Own.nil _ _ _ _⟩
  ·
    rintro τ23 ⟨i, vl⟩ w24 ⟨hx25, ⟨hi, hO⟩⟩
    try dsimp only at hi hO
    have hz26 := hx25.le
    intro Q27 kn28 kr29 ke30
    have hNl : (numsL c ((tp (R.take i)).filter (fun t => decide (cutL t ls = key)))).length ≤ i := Nat.le_trans (numsL_len _ _) (Nat.le_trans (List.length_filter_le _ _) (by rw [tp_len, List.length_take]; omega))
    obtain ⟨N, hN⟩ : ∃ N, N = (numsL c ((tp (R.take i)).filter (fun t => decide (cutL t ls = key)))) := ⟨_, rfl⟩
    rw [← hN] at hO hNl
    obtain ⟨aN, cN, rfl, hcN, hcN1⟩ := hO.src.form
    refine seqK fun Q31 kn32 kr33 ke34 => ?_
    refine seqK fun Q35 kn36 kr37 ke38 => ?_
    refine region ?_
    refine st_q (v := .int .i64 ((i : Nat) : Int)) (x_move rfl) ?_
    refine st_q (v := .slice a R.length ca) (x_move rfl) ?_
    refine st_q (v := .int .i64 ((R.length : Nat) : Int)) (x_lenSl rfl Tryd.underlying27 rfl) ?_
    refine st_q (v := .bool (decide (i < R.length))) (x_lssN rfl rfl) ?_
    refine st_nil ?_
    refine kn36 _ _ ?_
    refine cnd (p := i < R.length) rfl (fun h39 => ?_) (fun h39 => ?_)
    ·
      refine skip ?_
      refine kn32 _ _ ?_
      refine seqK fun Q40 kn41 kr42 ke43 => ?_
      refine blockK fun Q44 kn45 kr46 kx47 kb48 => ?_
      refine seqK fun Q49 kn50 kr51 ke52 => ?_
      refine region ?_
      refine st_q (v := .slice a R.length ca) (x_move rfl) ?_
      refine st_q (v := .int .i64 ((i : Nat) : Int)) (x_move rfl) ?_
      obtain ⟨b53, o54, ha55, hc56⟩ := ha.at (by omega)
      refine st_q (v := .pointer (some ⟨b53, o54 + i * 1, none⟩)) (x_index' T.sl27 rfl ha55 rfl (by omega)) ?_
      have hs57 := hR _ (el_mem' (xs := R) (i := i) (by omega))
      have htl := hlen _ (el_mem' (xs := R) (i := i) (by omega))
      refine st_q (v := .slice ((el R i).1.1) ((el R i).2.length) ((el R i).1.2)) (x_load1 T.na42 rfl ((hc56.below hx25).elem enR_len (i := i) (by omega))) ?_
      refine st_q (v := .int .i64 ((c : Nat) : Int)) (x_move rfl) ?_
      obtain ⟨b58, o59, ha60, hc61⟩ := hs57.at (by omega)
      refine st_q (v := .pointer (some ⟨b58, o59 + c * 1, none⟩)) (x_index' T.sl42 rfl ha60 rfl (by omega)) ?_
      refine st_q (v := .string (el (el R i).2 c)) (x_load1 T.na9 rfl ((hc61.below hx25).elem enS_len (i := c) (by omega))) ?_
      have hsz1 : (el (el R i).2 c).size ≤ maxLen := hsz _ (el_mem' (i := i) (by omega)) _ (el_mem' (by omega))
      refine st_c (t_call [.string (el (el R i).2 c)] T.cf10 rfl rfl) (number10g (el (el R i).2 c) _ hsz1) ?_
      rintro _ w62 ⟨rfl, hx63⟩
      refine ⟨_, rfl, ?_⟩
      have hF64 := hO.ext hx63
      have hE65 : Below w0.heap.size w0 w62 := hx63.e hx25 (Nat.le_refl _)
      have hz66 := hE65.le
      have hs67 := hx63.size
      refine st_q (v := .tuple #[.float .f64 (((num (el (el R i).2 c)).getD 0)), .bool ((num (el (el R i).2 c)).isSome)]) (x_move rfl) ?_
      refine st_q (v := .float .f64 (((num (el (el R i).2 c)).getD 0))) (x_extract rfl rfl) ?_
      refine st_q (v := .bool ((num (el (el R i).2 c)).isSome)) (x_extract rfl rfl) ?_
      refine st_q (v := .float .f64 (((num (el (el R i).2 c)).getD 0))) (x_assign rfl) ?_
      refine st_q (v := .bool ((num (el (el R i).2 c)).isSome)) (x_assign rfl) ?_
      refine st_nil ?_
      refine kn50 _ _ ?_
      refine seqK fun Q68 kn69 kr70 ke71 => ?_
      refine region ?_
      refine st_q (v := .bool ((num (el (el R i).2 c)).isSome)) (x_move rfl) ?_
      refine st_if (p := (num (el (el R i).2 c)).isSome = true) (x_moveBB rfl) (fun h72 => ?_) (fun h72 => ?_)
      ·
        refine st_gq 1 31 rfl rfl (by decide) ?_
        refine st_q (v := .slice a R.length ca) (x_move rfl) ?_
        refine st_gq 1 31 rfl rfl (by decide) ?_
        refine st_q (v := .int .i64 ((i : Nat) : Int)) (x_move rfl) ?_
        refine st_gq 1 31 rfl rfl (by decide) ?_
        refine st_q (v := .pointer (some ⟨b53, o54 + i * 1, none⟩)) (x_index' T.sl27 rfl ha55 rfl (by omega)) ?_
        refine st_gq 1 31 rfl rfl (by decide) ?_
        have hs73 := hR _ (el_mem' (xs := R) (i := i) (by omega))
        have htl := hlen _ (el_mem' (xs := R) (i := i) (by omega))
        refine st_q (v := .slice ((el R i).1.1) ((el R i).2.length) ((el R i).1.2)) (x_load1 T.na42 rfl ((hc56.below hE65).elem enR_len (i := i) (by omega))) ?_
        refine st_gq 1 31 rfl rfl (by decide) ?_
        refine st_q (v := .slice b ls.length cb) (x_move rfl) ?_
        refine st_gq 1 31 rfl rfl (by decide) ?_
        refine st_c (t_call [.slice ((el R i).1.1) ((el R i).2.length) ((el R i).1.2), .slice b ls.length cb] T.cf36 rfl rfl) (cut36 (el R i).2 ls _ _ _ (Src.below (hR _ (el_mem' (by omega))) hE65) (hb.below hE65) (fun j hj => by have := hcin j hj; omega) (by omega)) ?_
        rintro _ w74 ⟨v77, rfl, hx75, hO76⟩
        refine ⟨_, rfl, ?_⟩
        have hF78 := hF64.ext hx75
        have hE79 : Below w0.heap.size w0 w74 := hx75.e hE65 (Nat.le_refl _)
        have hz80 := hE79.le
        have hs81 := hx75.size
        refine st_gq 1 31 rfl rfl (by decide) ?_
        refine st_q (v := .slice k key.length ck) (x_move rfl) ?_
        refine st_gq 1 31 rfl rfl (by decide) ?_
        have hcs := hO76.src
        rw [← cutL_len (el R i).2 ls] at hcs
        refine st_c (t_call [v77, .slice k key.length ck] T.cf21 rfl rfl) (same21 (cutL (el R i).2 ls) key _ _ _ hcs (hk.below hE79)) ?_
        rintro _ w82 ⟨rfl, hx83⟩
        refine ⟨_, rfl, ?_⟩
        have hF84 := hF78.ext hx83
        have hF85 := hO76.ext hx83
        have hE86 : Below w0.heap.size w0 w82 := hx83.e hE79 (Nat.le_refl _)
        have hz87 := hE86.le
        have hs88 := hx83.size
        refine st_q (v := .bool (decide (cutL (el R i).2 ls = key))) (x_pickT rfl rfl) ?_
        refine st_nil ?_
        refine kn69 _ _ ?_
        refine cnd (p := cutL (el R i).2 ls = key) rfl (fun h89 => ?_) (fun h89 => ?_)
        ·
          refine region ?_
          refine st_q (v := .slice aN N.length cN) (x_move rfl) ?_
          refine st_q (v := .float .f64 (((num (el (el R i).2 c)).getD 0))) (x_move rfl) ?_
          refine st_e (e_buildSlice (cs := [.float .f64 (((num (el (el R i).2 c)).getD 0))]) (e := 22) (fun _ => by kernel_rfl) ?_)
          intro w90 hA91
          have hx92 := hA91.ext
          have hs93 := hA91.size
          have hB94 : Blk w90.heap w82.heap.size [.float .f64 (((num (el (el R i).2 c)).getD 0))] 22 := hA91.new
          have hF95 := hF84.ext hx92
          have hF96 := hF85.ext hx92
          have hE97 : Below w0.heap.size w0 w90 := hx92.e hE86 (Nat.le_refl _)
          have hz98 := hE97.le
          have hs99 := hx92.size
          refine st_e (e_appendX T.sl78 rfl rfl hF95 (hB94.src1 (k := 1) (m := 1) rfl (by omega)) (ones (by rfl)) (by omega) (by decide) (by omega) ?_)
          intro v100 w101 hO102 hG103 hN104 hW105
          have hF106 := hF96.gk (hG103) (hF95.rowk) (by decide)
          have hE107 : Below w0.heap.size w0 w101 := grown_below hG103 hE97 (Nat.le_refl _) (fun b hb => (by have := (hF95.lt hb).1; clear hb; omega))
          have hz108 := hE107.le
          have hs109 := hG103.size
          have hO110 := Own.snoc (enc := enF) (u := ((num (el (el R i).2 c)).getD 0)) hO102
          obtain ⟨a111, c112, rfl, hm113, hm114⟩ := hO110.src.form
          refine st_q (v := .slice a111 ((N.length + 1)) c112) (x_assign rfl) ?_
          refine st_nil ?_
          refine kn45 _ _ ?_
          refine kn41 _ _ ?_
          refine region ?_
          refine st_q (v := .int .i64 ((i : Nat) : Int)) (x_move rfl) ?_
          refine st_q (v := .int .i64 (((i + 1) : Nat) : Int)) (x_addN rfl rfl (by omega)) ?_
          refine st_q (v := .int .i64 (((i + 1) : Nat) : Int)) (x_assign rfl) ?_
          refine st_nil ?_
          refine kn28 _ ((i + 1), .slice a111 ((N.length + 1)) c112) _ ⟨rfl, rfl, rfl, rfl, rfl, rfl, trivial⟩ ⟨hE107, ?_⟩ ?_
          ·
            try dsimp only
            refine ⟨by omega, ?_⟩
            rw [tp_take_succ (by omega), List.filter_append, show List.filter (fun t => decide (cutL t ls = key)) [(el R i).2] = [(el R i).2] by simp [(by assumption : cutL (el R i).2 ls = key)], numsL_some (by assumption), ← hN]
            simpa using hO110
          ·
            (try dsimp only); omega
        ·
          refine skip ?_
          refine kn45 _ _ ?_
          refine kn41 _ _ ?_
          refine region ?_
          refine st_q (v := .int .i64 ((i : Nat) : Int)) (x_move rfl) ?_
          refine st_q (v := .int .i64 (((i + 1) : Nat) : Int)) (x_addN rfl rfl (by omega)) ?_
          refine st_q (v := .int .i64 (((i + 1) : Nat) : Int)) (x_assign rfl) ?_
          refine st_nil ?_
          refine kn28 _ ((i + 1), .slice aN N.length cN) _ ⟨rfl, rfl, rfl, rfl, rfl, rfl, trivial⟩ ⟨hE86, ?_⟩ ?_
          ·
            try dsimp only
            refine ⟨by omega, ?_⟩
            rw [tp_take_succ (by omega), List.filter_append]
            have e : numsL c (List.filter (fun t => decide (cutL t ls = key)) (tp (R.take i)) ++ List.filter (fun t => decide (cutL t ls = key)) [(el R i).2]) = N := by
              by_cases hc : cutL (el R i).2 ls = key
              · first
                | exact absurd hc (by assumption)
                | rw [show List.filter (fun t => decide (cutL t ls = key)) [(el R i).2] = [(el R i).2] by simp [hc], numsL_none (by have h := (by assumption : ¬ (num (el (el R i).2 c)).isSome = true); simpa using h), ← hN]
              · rw [show List.filter (fun t => decide (cutL t ls = key)) [(el R i).2] = [] by simp [hc], List.append_nil, ← hN]
            rw [e]; exact hF84
          ·
            (try dsimp only); omega
      ·
        refine st_gn 1 31 rfl rfl (by decide) rfl ?_
        refine st_gn 1 31 rfl rfl (by decide) rfl ?_
        refine st_gn 1 31 rfl rfl (by decide) rfl ?_
        refine st_gn 1 31 rfl rfl (by decide) rfl ?_
        refine st_gn 1 31 rfl rfl (by decide) rfl ?_
        refine st_gn 1 31 rfl rfl (by decide) rfl ?_
        refine st_gn 1 31 rfl rfl (by decide) rfl ?_
        refine st_gn 1 31 rfl rfl (by decide) rfl ?_
        refine st_q (v := .bool false) (x_pickF rfl rfl) ?_
        refine st_nil ?_
        refine kn69 _ _ ?_
        refine cndF rfl ?_
        refine skip ?_
        refine kn45 _ _ ?_
        refine kn41 _ _ ?_
        refine region ?_
        refine st_q (v := .int .i64 ((i : Nat) : Int)) (x_move rfl) ?_
        refine st_q (v := .int .i64 (((i + 1) : Nat) : Int)) (x_addN rfl rfl (by omega)) ?_
        refine st_q (v := .int .i64 (((i + 1) : Nat) : Int)) (x_assign rfl) ?_
        refine st_nil ?_
        refine kn28 _ ((i + 1), .slice aN N.length cN) _ ⟨rfl, rfl, rfl, rfl, rfl, rfl, trivial⟩ ⟨hE65, ?_⟩ ?_
        ·
          try dsimp only
          refine ⟨by omega, ?_⟩
          rw [tp_take_succ (by omega), List.filter_append]
          have e : numsL c (List.filter (fun t => decide (cutL t ls = key)) (tp (R.take i)) ++ List.filter (fun t => decide (cutL t ls = key)) [(el R i).2]) = N := by
            by_cases hc : cutL (el R i).2 ls = key
            · first
              | exact absurd hc (by assumption)
              | rw [show List.filter (fun t => decide (cutL t ls = key)) [(el R i).2] = [(el R i).2] by simp [hc], numsL_none (by have h := (by assumption : ¬ (num (el (el R i).2 c)).isSome = true); simpa using h), ← hN]
            · rw [show List.filter (fun t => decide (cutL t ls = key)) [(el R i).2] = [] by simp [hc], List.append_nil, ← hN]
          rw [e]; exact hF64
        ·
          (try dsimp only); omega
    ·
      refine exit ?_
      refine ke34 _ _ _ ?_
      refine ke30 _ _ _ ?_
      refine kb21 _ _ ?_
      refine kn10 _ _ ?_
      refine seqK fun Q115 kn116 kr117 ke118 => ?_
      refine region ?_
      refine st_q (v := .slice aN N.length cN) (x_move rfl) ?_
      refine st_q (v := .slice aN N.length cN) (x_assign rfl) ?_
      refine st_nil ?_
      refine kn116 _ _ ?_
      refine ret ?_
      refine leave1 (P := Tryd.prog) (fn := Tryd.f38) (t := 8) (v := .slice aN N.length cN) rfl rfl ?_
      have e : (numsL c ((tp R).filter (fun t => decide (cutL t ls = key)))) = N := by rw [hN, show i = R.length by omega, List.take_length]
      rw [e]
      exact ⟨_, rfl, hx25, hO⟩

end Go.Proofs.YtegpcbckiehleaaDoor
