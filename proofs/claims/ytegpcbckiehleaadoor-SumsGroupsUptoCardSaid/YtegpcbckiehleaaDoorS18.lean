import Derived.Test.YtegpcbckiehleaaDoorS17
namespace Go.Proofs.YtegpcbckiehleaaDoor
open Go.RowKit Go.Eng Go.OrdPure Go.Flt
theorem T.cf28 : CF Tryd.prog 28 := fun _ _ => by kernel_rfl
theorem T.cf38 : CF Tryd.prog 38 := fun _ _ => by kernel_rfl
theorem T.cf37 : CF Tryd.prog 37 := fun _ _ => by kernel_rfl

theorem like28t (x y : Nat) (w0 : World) (h : likeB x y = true) : Calls Tryd.prog 28 #[.float .f64 x, .float .f64 y] w0 fun e w' => e = .returned (.bool true) ∧ w0 = w' := by
  have := like28 x y w0
  rw [h] at this; exact this
/-- keys that are to be read -/
def KeysP (h : Array Obj) (A : List Grp) : Prop := ∀ g ∈ A, Src h (.slice g.q g.key.length g.c) g.key.length 1 (flat enS g.key)
theorem KeysP.ext {w w' : World} {A : List Grp} (h : KeysP w.heap A) (hx : Ext w w') : KeysP w'.heap A := fun g hg => (h g hg).ext hx
set_option maxHeartbeats 4000000 in
theorem same17 (A B : List Grp) (va vb : Value) (w0 : World) (ha : Src w0.heap va A.length 8 (flat enG A)) (hb : Src w0.heap vb B.length 8 (flat enG B)) (hkA : KeysP w0.heap A) (hkB : KeysP w0.heap B) (hl : A.length = B.length) (hs : ∀ j, j < A.length → AlikeG (el A j) (el B j)) : Calls Tryd.prog 17 #[va, vb] w0 fun e w' => e = .returned (.bool true) ∧ Ext w0 w' := by
  have hE0 : Below w0.heap.size w0 w0 := Below.refl _ _
  have hz0 := hE0.le
  obtain ⟨a, ca, rfl, hca, hca1⟩ := ha.form
  obtain ⟨b, cb, rfl, hcb, hcb1⟩ := hb.form
  refine enter Tryd.func17 rfl 87 Tryd.ntmps17 rfl ?_
  refine seqK fun Q1 kn2 kr3 ke4 => ?_
  refine region ?_
  refine st_q (v := .bool false) (x_assign rfl) ?_
  refine st_nil ?_
  refine kn2 _ _ ?_
  refine seqK fun Q5 kn6 kr7 ke8 => ?_
  refine seqK fun Q9 kn10 kr11 ke12 => ?_
  refine region ?_
  refine st_q (v := .slice a A.length ca) (x_move rfl) ?_
  refine st_q (v := .int .i64 ((A.length : Nat) : Int)) (x_lenSl rfl Tryd.underlying32 rfl) ?_
  refine st_q (v := .slice b B.length cb) (x_move rfl) ?_
  refine st_q (v := .int .i64 ((B.length : Nat) : Int)) (x_lenSl rfl Tryd.underlying32 rfl) ?_
  refine st_q (v := .bool (decide (A.length ≠ B.length))) (x_neqN rfl rfl) ?_
  refine st_nil ?_
  refine kn10 _ _ ?_
  refine cnd (p := A.length ≠ B.length) rfl (fun h13 => ?_) (fun h13 => ?_)
  ·
    exact absurd h13 (not_not_intro hl)
  ·
    refine skip ?_
    refine kn6 _ _ ?_
    refine seqK fun Q14 kn15 kr16 ke17 => ?_
    refine seqK fun Q18 kn19 kr20 ke21 => ?_
    refine region ?_
    refine st_q (v := .int .i64 ((0 : Nat) : Int)) (x_assign rfl) ?_
    refine st_nil ?_
    refine kn19 _ _ ?_
    refine blockK fun Q22 kn23 kr24 kx25 kb26 => ?_
    refine loopK (α := Nat) (fun x => [(0, .slice a A.length ca), (1, .slice b B.length cb), (5, .int .i64 ((x : Nat) : Int))]) (fun x w27 => Below w0.heap.size w0 w27 ∧ x ≤ A.length) (fun x => A.length - x) (0) ⟨rfl, rfl, rfl, trivial⟩ ?_ ?_
    ·
      refine ⟨hE0, ?_⟩
      try dsimp only
      exact Nat.zero_le _
    ·
      rintro τ28 i w29 ⟨hx30, hi⟩
      try dsimp only at hi
      have hz31 := hx30.le
      intro Q32 kn33 kr34 ke35
      refine seqK fun Q36 kn37 kr38 ke39 => ?_
      refine seqK fun Q40 kn41 kr42 ke43 => ?_
      refine region ?_
      refine st_q (v := .int .i64 ((i : Nat) : Int)) (x_move rfl) ?_
      refine st_q (v := .slice a A.length ca) (x_move rfl) ?_
      refine st_q (v := .int .i64 ((A.length : Nat) : Int)) (x_lenSl rfl Tryd.underlying32 rfl) ?_
      refine st_q (v := .bool (decide (i < A.length))) (x_lssN rfl rfl) ?_
      refine st_nil ?_
      refine kn41 _ _ ?_
      refine cnd (p := i < A.length) rfl (fun h44 => ?_) (fun h44 => ?_)
      ·
        refine skip ?_
        refine kn37 _ _ ?_
        refine seqK fun Q45 kn46 kr47 ke48 => ?_
        refine blockK fun Q49 kn50 kr51 kx52 kb53 => ?_
        refine seqLK (n := 87) (ds := []) (α := Nat × Nat) (fun x => [(0, .slice a A.length ca), (1, .slice b B.length cb), (5, .int .i64 ((i : Nat) : Int)), (6, .pointer (some ⟨x.1, 0, none⟩)), (7, .pointer (some ⟨x.2, 0, none⟩))]) (fun x w54 => Below w0.heap.size w0 w54 ∧ Blk w54.heap x.1 [.slice ((el A i).q) ((el A i).key.length) ((el A i).c), .int .i64 ((el A i).count), .int .i64 ((el A i).numbers), .float .f64 ((el A i).sum), .float .f64 ((el A i).mean), .float .f64 ((el A i).spread), .float .f64 ((el A i).least), .float .f64 ((el A i).greatest)] 44 ∧ Blk w54.heap x.2 [.slice ((el B i).q) ((el B i).key.length) ((el B i).c), .int .i64 ((el B i).count), .int .i64 ((el B i).numbers), .float .f64 ((el B i).sum), .float .f64 ((el B i).mean), .float .f64 ((el B i).spread), .float .f64 ((el B i).least), .float .f64 ((el B i).greatest)] 44) ?_ ?_
        ·
          intro Q55 kn56 kr57 ke58
          refine regionD1 [3, 7] [0, 1, 2, 3, 4, 5, 6, 7] (.one 0 (.one 1 (.one 2 (.one 3 (.one 4 (.one 5 (.one 6 (.one 7 (.two 8 (.one 9 (.one 10 (.one 11 .done))) 9 (.one 8 (.one 10 (.one 11 .done)))))))))))) (by kernel_rfl) (by kernel_rfl) ?_
          intro w59 hx60 hs61
          have hE62 : Below w0.heap.size w0 w59 := hx60.e hx30 (Nat.le_refl _)
          have hz63 := hE62.le
          have hs64 := hx60.size
          have hS65 : Ext w59 w59 := Below.refl _ _
          refine d_q (v := .slice a A.length ca) rfl rfl (fun _ => x_move rfl) ?_
          refine d_q (v := .int .i64 ((i : Nat) : Int)) rfl rfl (fun _ => x_move rfl) ?_
          obtain ⟨b66, o67, ha68, hc69⟩ := ha.at (by omega)
          refine d_q (v := .pointer (some ⟨b66, o67 + i * 8, none⟩)) rfl rfl (fun _ => x_index' T.sl32 rfl ha68 rfl (by omega)) ?_
          refine d_l (v := .agg #[.slice ((el A i).q) ((el A i).key.length) ((el A i).c), .int .i64 ((el A i).count), .int .i64 ((el A i).numbers), .float .f64 ((el A i).sum), .float .f64 ((el A i).mean), .float .f64 ((el A i).spread), .float .f64 ((el A i).least), .float .f64 ((el A i).greatest)]) rfl rfl rfl (fun v71 hw70 => x_loadA [.slice ((el A i).q) ((el A i).key.length) ((el A i).c), .int .i64 ((el A i).count), .int .i64 ((el A i).numbers), .float .f64 ((el A i).sum), .float .f64 ((el A i).mean), .float .f64 ((el A i).spread), .float .f64 ((el A i).least), .float .f64 ((el A i).greatest)] T.ag44 rfl (((hc69.below hE62).elem enG_len (i := i) (by omega)).ext hw70)) ?_
          refine d_q (v := .slice b B.length cb) rfl rfl (fun _ => x_move rfl) ?_
          refine d_q (v := .int .i64 ((i : Nat) : Int)) rfl rfl (fun _ => x_move rfl) ?_
          obtain ⟨b72, o73, ha74, hc75⟩ := hb.at (by omega)
          refine d_q (v := .pointer (some ⟨b72, o73 + i * 8, none⟩)) rfl rfl (fun _ => x_index' T.sl32 rfl ha74 rfl (by omega)) ?_
          refine d_l (v := .agg #[.slice ((el B i).q) ((el B i).key.length) ((el B i).c), .int .i64 ((el B i).count), .int .i64 ((el B i).numbers), .float .f64 ((el B i).sum), .float .f64 ((el B i).mean), .float .f64 ((el B i).spread), .float .f64 ((el B i).least), .float .f64 ((el B i).greatest)]) rfl rfl rfl (fun v77 hw76 => x_loadA [.slice ((el B i).q) ((el B i).key.length) ((el B i).c), .int .i64 ((el B i).count), .int .i64 ((el B i).numbers), .float .f64 ((el B i).sum), .float .f64 ((el B i).mean), .float .f64 ((el B i).spread), .float .f64 ((el B i).least), .float .f64 ((el B i).greatest)] T.ag44 rfl (((hc75.below hE62).elem enG_len (i := i) (by omega)).ext hw76)) ?_
          refine d_two ?_ ?_
          ·
            refine id (d_e' rfl rfl (e_alloc T.zv44 ?_))
            intro w78 hA79
            have hx80 := hA79.ext
            have hs81 := hA79.size
            have hB82 : Blk w78.heap w59.heap.size [.slice none 0 0, .int .i64 ((0 : Nat) : Int), .int .i64 ((0 : Nat) : Int), .float .f64 0, .float .f64 0, .float .f64 0, .float .f64 0, .float .f64 0] 44 := hA79.new
            have hE83 : Below w0.heap.size w0 w78 := hx80.e hE62 (Nat.le_refl _)
            have hz84 := hE83.le
            have hs85 := hx80.size
            have hS86 := hS65.trans (hx80.mono hS65.size)
            refine ⟨fun _ => hS86, ?_⟩
            refine d_e (by decide) (d_e' rfl rfl (e_alloc T.zv44 ?_))
            intro w87 hA88
            have hx89 := hA88.ext
            have hs90 := hA88.size
            have hB91 : Blk w87.heap w78.heap.size [.slice none 0 0, .int .i64 ((0 : Nat) : Int), .int .i64 ((0 : Nat) : Int), .float .f64 0, .float .f64 0, .float .f64 0, .float .f64 0, .float .f64 0] 44 := hA88.new
            have hB92 := hB82.ext hx89
            have hE93 : Below w0.heap.size w0 w87 := hx89.e hE83 (Nat.le_refl _)
            have hz94 := hE93.le
            have hs95 := hx89.size
            have hS96 := hS86.trans (hx89.mono hS86.size)
            refine ⟨fun _ => hS96, ?_⟩
            refine d_e (by decide) (d_s' rfl rfl (e_st (v := .agg #[.slice ((el A i).q) ((el A i).key.length) ((el A i).c), .int .i64 ((el A i).count), .int .i64 ((el A i).numbers), .float .f64 ((el A i).sum), .float .f64 ((el A i).mean), .float .f64 ((el A i).spread), .float .f64 ((el A i).least), .float .f64 ((el A i).greatest)]) T.sz44 rfl rfl hB92 (by simp [Value.cells]) (by rfl) ?_))
            intro w97 hP98
            have hB99 : Blk w97.heap w59.heap.size [.slice ((el A i).q) ((el A i).key.length) ((el A i).c), .int .i64 ((el A i).count), .int .i64 ((el A i).numbers), .float .f64 ((el A i).sum), .float .f64 ((el A i).mean), .float .f64 ((el A i).spread), .float .f64 ((el A i).least), .float .f64 ((el A i).greatest)] 44 := hP98.new
            have hs100 := hP98.size
            have hB101 := hB91.pt hP98 (by omega)
            have hE102 : Below w0.heap.size w0 w97 := hP98.below hE93 (by omega)
            have hz103 := hE102.le
            have hS104 : Ext w59 w97 := hP98.below hS96 (by omega)
            refine ⟨fun _ => hS104, ?_⟩
            refine d_e (by decide) (d_s' rfl rfl (e_st (v := .agg #[.slice ((el B i).q) ((el B i).key.length) ((el B i).c), .int .i64 ((el B i).count), .int .i64 ((el B i).numbers), .float .f64 ((el B i).sum), .float .f64 ((el B i).mean), .float .f64 ((el B i).spread), .float .f64 ((el B i).least), .float .f64 ((el B i).greatest)]) T.sz44 rfl rfl hB101 (by simp [Value.cells]) (by rfl) ?_))
            intro w105 hP106
            have hB107 : Blk w105.heap w78.heap.size [.slice ((el B i).q) ((el B i).key.length) ((el B i).c), .int .i64 ((el B i).count), .int .i64 ((el B i).numbers), .float .f64 ((el B i).sum), .float .f64 ((el B i).mean), .float .f64 ((el B i).spread), .float .f64 ((el B i).least), .float .f64 ((el B i).greatest)] 44 := hP106.new
            have hs108 := hP106.size
            have hB109 := hB99.pt hP106 (by omega)
            have hE110 : Below w0.heap.size w0 w105 := hP106.below hE102 (by omega)
            have hz111 := hE110.le
            have hS112 : Ext w59 w105 := hP106.below hS104 (by omega)
            refine ⟨fun _ => hS112, ?_⟩
            refine d_done ?_
            refine kn56 _ (w59.heap.size, w78.heap.size) _ ⟨rfl, rfl, rfl, rfl, rfl, trivial⟩ ⟨hE110, ?_⟩
            try dsimp only
            exact ⟨hB109, hB107⟩
          ·
            refine id (d_e' rfl rfl (e_alloc T.zv44 ?_))
            intro w113 hA114
            have hx115 := hA114.ext
            have hs116 := hA114.size
            have hB117 : Blk w113.heap w59.heap.size [.slice none 0 0, .int .i64 ((0 : Nat) : Int), .int .i64 ((0 : Nat) : Int), .float .f64 0, .float .f64 0, .float .f64 0, .float .f64 0, .float .f64 0] 44 := hA114.new
            have hE118 : Below w0.heap.size w0 w113 := hx115.e hE62 (Nat.le_refl _)
            have hz119 := hE118.le
            have hs120 := hx115.size
            have hS121 := hS65.trans (hx115.mono hS65.size)
            refine ⟨fun _ => hS121, ?_⟩
            refine d_e (by decide) (d_e' rfl rfl (e_alloc T.zv44 ?_))
            intro w122 hA123
            have hx124 := hA123.ext
            have hs125 := hA123.size
            have hB126 : Blk w122.heap w113.heap.size [.slice none 0 0, .int .i64 ((0 : Nat) : Int), .int .i64 ((0 : Nat) : Int), .float .f64 0, .float .f64 0, .float .f64 0, .float .f64 0, .float .f64 0] 44 := hA123.new
            have hB127 := hB117.ext hx124
            have hE128 : Below w0.heap.size w0 w122 := hx124.e hE118 (Nat.le_refl _)
            have hz129 := hE128.le
            have hs130 := hx124.size
            have hS131 := hS121.trans (hx124.mono hS121.size)
            refine ⟨fun _ => hS131, ?_⟩
            refine d_e (by decide) (d_s' rfl rfl (e_st (v := .agg #[.slice ((el A i).q) ((el A i).key.length) ((el A i).c), .int .i64 ((el A i).count), .int .i64 ((el A i).numbers), .float .f64 ((el A i).sum), .float .f64 ((el A i).mean), .float .f64 ((el A i).spread), .float .f64 ((el A i).least), .float .f64 ((el A i).greatest)]) T.sz44 rfl rfl hB126 (by simp [Value.cells]) (by rfl) ?_))
            intro w132 hP133
            have hB134 : Blk w132.heap w113.heap.size [.slice ((el A i).q) ((el A i).key.length) ((el A i).c), .int .i64 ((el A i).count), .int .i64 ((el A i).numbers), .float .f64 ((el A i).sum), .float .f64 ((el A i).mean), .float .f64 ((el A i).spread), .float .f64 ((el A i).least), .float .f64 ((el A i).greatest)] 44 := hP133.new
            have hs135 := hP133.size
            have hB136 := hB127.pt hP133 (by omega)
            have hE137 : Below w0.heap.size w0 w132 := hP133.below hE128 (by omega)
            have hz138 := hE137.le
            have hS139 : Ext w59 w132 := hP133.below hS131 (by omega)
            refine ⟨fun _ => hS139, ?_⟩
            refine d_e (by decide) (d_s' rfl rfl (e_st (v := .agg #[.slice ((el B i).q) ((el B i).key.length) ((el B i).c), .int .i64 ((el B i).count), .int .i64 ((el B i).numbers), .float .f64 ((el B i).sum), .float .f64 ((el B i).mean), .float .f64 ((el B i).spread), .float .f64 ((el B i).least), .float .f64 ((el B i).greatest)]) T.sz44 rfl rfl hB136 (by simp [Value.cells]) (by rfl) ?_))
            intro w140 hP141
            have hB142 : Blk w140.heap w59.heap.size [.slice ((el B i).q) ((el B i).key.length) ((el B i).c), .int .i64 ((el B i).count), .int .i64 ((el B i).numbers), .float .f64 ((el B i).sum), .float .f64 ((el B i).mean), .float .f64 ((el B i).spread), .float .f64 ((el B i).least), .float .f64 ((el B i).greatest)] 44 := hP141.new
            have hs143 := hP141.size
            have hB144 := hB134.pt hP141 (by omega)
            have hE145 : Below w0.heap.size w0 w140 := hP141.below hE137 (by omega)
            have hz146 := hE145.le
            have hS147 : Ext w59 w140 := hP141.below hS139 (by omega)
            refine ⟨fun _ => hS147, ?_⟩
            refine d_done ?_
            refine kn56 _ (w113.heap.size, w59.heap.size) _ ⟨rfl, rfl, rfl, rfl, rfl, trivial⟩ ⟨hE145, ?_⟩
            try dsimp only
            exact ⟨hB144, hB142⟩
        ·
          rintro τ148 ⟨b6, b7⟩ w149 ⟨hx150, ⟨hB6, hB7⟩⟩
          try dsimp only at hB6 hB7
          have hz151 := hx150.le
          refine seqK fun Q152 kn153 kr154 ke155 => ?_
          refine region ?_
          refine st_q (v := .pointer (some ⟨b6, 0, none⟩)) (x_field (o := 0) T.fa44_0 rfl) ?_
          refine st_q (v := .slice ((el A i).q) ((el A i).key.length) ((el A i).c)) (x_load1 T.na42 rfl (hB6.one 0 rfl)) ?_
          refine st_q (v := .pointer (some ⟨b7, 0, none⟩)) (x_field (o := 0) T.fa44_0 rfl) ?_
          refine st_q (v := .slice ((el B i).q) ((el B i).key.length) ((el B i).c)) (x_load1 T.na42 rfl (hB7.one 0 rfl)) ?_
          have hsi := hs i (by omega)
          refine st_c (t_call [.slice ((el A i).q) ((el A i).key.length) ((el A i).c), .slice ((el B i).q) ((el B i).key.length) ((el B i).c)] T.cf21 rfl rfl) (same21 (el A i).key (el B i).key _ _ _ ((hkA _ (el_mem' (by omega))).below hx150) ((hkB _ (el_mem' (by omega))).below hx150)) ?_
          rintro _ w156 ⟨rfl, hx157⟩
          refine ⟨_, rfl, ?_⟩
          have hB158 := hB6.ext hx157
          have hB159 := hB7.ext hx157
          have hE160 : Below w0.heap.size w0 w156 := hx157.e hx150 (Nat.le_refl _)
          have hz161 := hE160.le
          have hs162 := hx157.size
          refine st_q (v := .bool (decide (¬ ((el A i).key = (el B i).key)))) (x_notP rfl) ?_
          refine st_if (p := ¬ ((el A i).key = (el B i).key)) (x_move rfl) (fun h163 => ?_) (fun h163 => ?_)
          ·
            exact absurd h163 (not_not_intro hsi.key)
          ·
            refine st_gq 6 33 rfl rfl (by decide) ?_
            refine st_q (v := .pointer (some ⟨b6, 1, none⟩)) (x_field (o := 0) T.fa44_1 rfl) ?_
            refine st_gq 6 33 rfl rfl (by decide) ?_
            refine st_q (v := .int .i64 ((el A i).count)) (x_load1 T.na3 rfl (hB158.one 1 rfl)) ?_
            refine st_gq 6 33 rfl rfl (by decide) ?_
            refine st_q (v := .pointer (some ⟨b7, 1, none⟩)) (x_field (o := 0) T.fa44_1 rfl) ?_
            refine st_gq 6 33 rfl rfl (by decide) ?_
            refine st_q (v := .int .i64 ((el B i).count)) (x_load1 T.na3 rfl (hB159.one 1 rfl)) ?_
            refine st_gq 6 33 rfl rfl (by decide) ?_
            refine st_q (v := .bool (decide (((el A i).count) ≠ ((el B i).count)))) (x_neq rfl rfl) ?_
            refine st_q (v := .bool (decide (((el A i).count) ≠ ((el B i).count)))) (x_pickF rfl rfl) ?_
            refine st_if (p := ((el A i).count) ≠ ((el B i).count)) (x_move rfl) (fun h164 => ?_) (fun h164 => ?_)
            ·
              exact absurd h164 (not_not_intro hsi.count)
            ·
              refine st_gq 13 40 rfl rfl (by decide) ?_
              refine st_q (v := .pointer (some ⟨b6, 2, none⟩)) (x_field (o := 0) T.fa44_2 rfl) ?_
              refine st_gq 13 40 rfl rfl (by decide) ?_
              refine st_q (v := .int .i64 ((el A i).numbers)) (x_load1 T.na3 rfl (hB158.one 2 rfl)) ?_
              refine st_gq 13 40 rfl rfl (by decide) ?_
              refine st_q (v := .pointer (some ⟨b7, 2, none⟩)) (x_field (o := 0) T.fa44_2 rfl) ?_
              refine st_gq 13 40 rfl rfl (by decide) ?_
              refine st_q (v := .int .i64 ((el B i).numbers)) (x_load1 T.na3 rfl (hB159.one 2 rfl)) ?_
              refine st_gq 13 40 rfl rfl (by decide) ?_
              refine st_q (v := .bool (decide (((el A i).numbers) ≠ ((el B i).numbers)))) (x_neq rfl rfl) ?_
              refine st_q (v := .bool (decide (((el A i).numbers) ≠ ((el B i).numbers)))) (x_pickF rfl rfl) ?_
              refine st_if (p := ((el A i).numbers) ≠ ((el B i).numbers)) (x_move rfl) (fun h165 => ?_) (fun h165 => ?_)
              ·
                exact absurd h165 (not_not_intro hsi.numbers)
              ·
                refine st_gq 20 47 rfl rfl (by decide) ?_
                refine st_q (v := .pointer (some ⟨b6, 3, none⟩)) (x_field (o := 0) T.fa44_3 rfl) ?_
                refine st_gq 20 47 rfl rfl (by decide) ?_
                refine st_q (v := .float .f64 ((el A i).sum)) (x_load1 T.na22 rfl (hB158.one 3 rfl)) ?_
                refine st_gq 20 47 rfl rfl (by decide) ?_
                refine st_q (v := .pointer (some ⟨b7, 3, none⟩)) (x_field (o := 0) T.fa44_3 rfl) ?_
                refine st_gq 20 47 rfl rfl (by decide) ?_
                refine st_q (v := .float .f64 ((el B i).sum)) (x_load1 T.na22 rfl (hB159.one 3 rfl)) ?_
                refine st_gq 20 47 rfl rfl (by decide) ?_
                refine st_c (t_call [.float .f64 ((el A i).sum), .float .f64 ((el B i).sum)] T.cf28 rfl rfl) (like28t _ _ _ hsi.sum) ?_
                rintro _ _ ⟨rfl, rfl⟩
                refine ⟨_, rfl, ?_⟩
                refine st_gq 20 47 rfl rfl (by decide) ?_
                refine st_q (v := .bool false) (x_notB (b := true) rfl) ?_
                refine st_q (v := .bool false) (x_pickF rfl rfl) ?_
                refine st_q (v := .bool false) (x_move rfl) ?_
                refine st_gq 28 55 rfl rfl (by decide) ?_
                refine st_q (v := .pointer (some ⟨b6, 4, none⟩)) (x_field (o := 0) T.fa44_4 rfl) ?_
                refine st_gq 28 55 rfl rfl (by decide) ?_
                refine st_q (v := .float .f64 ((el A i).mean)) (x_load1 T.na22 rfl (hB158.one 4 rfl)) ?_
                refine st_gq 28 55 rfl rfl (by decide) ?_
                refine st_q (v := .pointer (some ⟨b7, 4, none⟩)) (x_field (o := 0) T.fa44_4 rfl) ?_
                refine st_gq 28 55 rfl rfl (by decide) ?_
                refine st_q (v := .float .f64 ((el B i).mean)) (x_load1 T.na22 rfl (hB159.one 4 rfl)) ?_
                refine st_gq 28 55 rfl rfl (by decide) ?_
                refine st_c (t_call [.float .f64 ((el A i).mean), .float .f64 ((el B i).mean)] T.cf28 rfl rfl) (like28t _ _ _ hsi.mean) ?_
                rintro _ _ ⟨rfl, rfl⟩
                refine ⟨_, rfl, ?_⟩
                refine st_gq 28 55 rfl rfl (by decide) ?_
                refine st_q (v := .bool false) (x_notB (b := true) rfl) ?_
                refine st_q (v := .bool false) (x_pickF rfl rfl) ?_
                refine st_q (v := .bool false) (x_move rfl) ?_
                refine st_gq 36 63 rfl rfl (by decide) ?_
                refine st_q (v := .pointer (some ⟨b6, 5, none⟩)) (x_field (o := 0) T.fa44_5 rfl) ?_
                refine st_gq 36 63 rfl rfl (by decide) ?_
                refine st_q (v := .float .f64 ((el A i).spread)) (x_load1 T.na22 rfl (hB158.one 5 rfl)) ?_
                refine st_gq 36 63 rfl rfl (by decide) ?_
                refine st_q (v := .pointer (some ⟨b7, 5, none⟩)) (x_field (o := 0) T.fa44_5 rfl) ?_
                refine st_gq 36 63 rfl rfl (by decide) ?_
                refine st_q (v := .float .f64 ((el B i).spread)) (x_load1 T.na22 rfl (hB159.one 5 rfl)) ?_
                refine st_gq 36 63 rfl rfl (by decide) ?_
                refine st_c (t_call [.float .f64 ((el A i).spread), .float .f64 ((el B i).spread)] T.cf28 rfl rfl) (like28t _ _ _ hsi.spread) ?_
                rintro _ _ ⟨rfl, rfl⟩
                refine ⟨_, rfl, ?_⟩
                refine st_gq 36 63 rfl rfl (by decide) ?_
                refine st_q (v := .bool false) (x_notB (b := true) rfl) ?_
                refine st_q (v := .bool false) (x_pickF rfl rfl) ?_
                refine st_q (v := .bool false) (x_move rfl) ?_
                refine st_gq 44 71 rfl rfl (by decide) ?_
                refine st_q (v := .pointer (some ⟨b6, 6, none⟩)) (x_field (o := 0) T.fa44_6 rfl) ?_
                refine st_gq 44 71 rfl rfl (by decide) ?_
                refine st_q (v := .float .f64 ((el A i).least)) (x_load1 T.na22 rfl (hB158.one 6 rfl)) ?_
                refine st_gq 44 71 rfl rfl (by decide) ?_
                refine st_q (v := .pointer (some ⟨b7, 6, none⟩)) (x_field (o := 0) T.fa44_6 rfl) ?_
                refine st_gq 44 71 rfl rfl (by decide) ?_
                refine st_q (v := .float .f64 ((el B i).least)) (x_load1 T.na22 rfl (hB159.one 6 rfl)) ?_
                refine st_gq 44 71 rfl rfl (by decide) ?_
                refine st_c (t_call [.float .f64 ((el A i).least), .float .f64 ((el B i).least)] T.cf28 rfl rfl) (like28t _ _ _ hsi.least) ?_
                rintro _ _ ⟨rfl, rfl⟩
                refine ⟨_, rfl, ?_⟩
                refine st_gq 44 71 rfl rfl (by decide) ?_
                refine st_q (v := .bool false) (x_notB (b := true) rfl) ?_
                refine st_q (v := .bool false) (x_pickF rfl rfl) ?_
                refine st_q (v := .bool false) (x_move rfl) ?_
                refine st_gq 52 79 rfl rfl (by decide) ?_
                refine st_q (v := .pointer (some ⟨b6, 7, none⟩)) (x_field (o := 0) T.fa44_7 rfl) ?_
                refine st_gq 52 79 rfl rfl (by decide) ?_
                refine st_q (v := .float .f64 ((el A i).greatest)) (x_load1 T.na22 rfl (hB158.one 7 rfl)) ?_
                refine st_gq 52 79 rfl rfl (by decide) ?_
                refine st_q (v := .pointer (some ⟨b7, 7, none⟩)) (x_field (o := 0) T.fa44_7 rfl) ?_
                refine st_gq 52 79 rfl rfl (by decide) ?_
                refine st_q (v := .float .f64 ((el B i).greatest)) (x_load1 T.na22 rfl (hB159.one 7 rfl)) ?_
                refine st_gq 52 79 rfl rfl (by decide) ?_
                refine st_c (t_call [.float .f64 ((el A i).greatest), .float .f64 ((el B i).greatest)] T.cf28 rfl rfl) (like28t _ _ _ hsi.greatest) ?_
                rintro _ _ ⟨rfl, rfl⟩
                refine ⟨_, rfl, ?_⟩
                refine st_gq 52 79 rfl rfl (by decide) ?_
                refine st_q (v := .bool false) (x_notB (b := true) rfl) ?_
                refine st_q (v := .bool false) (x_pickF rfl rfl) ?_
                refine st_nil ?_
                refine kn153 _ _ ?_
                refine cndF rfl ?_
                refine skip ?_
                refine kn50 _ _ ?_
                refine kn46 _ _ ?_
                refine region ?_
                refine st_q (v := .int .i64 ((i : Nat) : Int)) (x_move rfl) ?_
                refine st_q (v := .int .i64 (((i + 1) : Nat) : Int)) (x_addN rfl rfl (by omega)) ?_
                refine st_q (v := .int .i64 (((i + 1) : Nat) : Int)) (x_assign rfl) ?_
                refine st_nil ?_
                refine kn33 _ ((i + 1)) _ ⟨rfl, rfl, rfl, trivial⟩ ⟨hE160, ?_⟩ ?_
                ·
                  try dsimp only
                  show _ ≤ _; omega
                ·
                  (try dsimp only); omega
      ·
        refine exit ?_
        refine ke39 _ _ _ ?_
        refine ke35 _ _ _ ?_
        refine kb26 _ _ ?_
        refine kn15 _ _ ?_
        refine seqK fun Q166 kn167 kr168 ke169 => ?_
        refine region ?_
        refine st_q (v := .bool true) (x_assign rfl) ?_
        refine st_nil ?_
        refine kn167 _ _ ?_
        refine ret ?_
        refine leave1 (P := Tryd.prog) (fn := Tryd.f17) (t := 4) (v := .bool true) rfl rfl ?_
        exact ⟨rfl, hx30⟩

theorem _root_.Go.Eng.RowsP.ext' {w w' : World} {L : List Row} (hr : RowsP w.heap L) (h : Ext w w') : RowsP w'.heap L := RowsP.below hr h
set_option maxHeartbeats 4000000 in
theorem refsums14c (pr : ByteArray) (ar : Int) (L : List Row) (va : Value) (ls : List Int) (vb : Value) (c : Nat) (w0 : World) (ha : Src w0.heap va L.length 1 (flat enR L)) (hL : RowsP w0.heap L) (hb : Src w0.heap vb ls.length 1 (flat enI ls)) (hG : RightR ar (tp L) ∧ ColsOK ar ls) (hn : L.length ≤ 1466015503701) (hsz : SizeL L) (hC : badC ar ((c : Nat) : Int) = false) : Calls Tryd.prog 14 #[.agg #[.string pr, .int .i64 ar, va], .int .i64 ((c : Nat) : Int), vb] w0 fun e w' => ∃ (v : Value) (A : List Row) (G : List Grp), e = .returned (.tuple #[v, .int .i64 0]) ∧ Ext w0 w' ∧ Own w'.heap w0.heap.size 44 8 v G.length (flat enG G) ∧ tp A = setL ((setL (tp L)).map fun t => cutL t ls) ∧ RowsW w'.heap w0.heap.size A ∧ G.length = A.length ∧ ∀ j, j < G.length → FillR (numsL c ((setL (tp L)).filter (fun t => decide (cutL t ls = (el A j).2)))) (g0 (el A j).1.1 (el A j).1.2 (el A j).2 ((((setL (tp L)).filter (fun t => decide (cutL t ls = (el A j).2))).length : Nat) : Int)) (el G j) := by
  have hE0 : Below w0.heap.size w0 w0 := Below.refl _ _
  have hz0 := hE0.le
  obtain ⟨a, ca, rfl, hca, hca1⟩ := ha.form
  obtain ⟨b, cb, rfl, hcb, hcb1⟩ := hb.form
  have hC2 : c < 16 ∧ ((c : Nat) : Int) < ar := by
    unfold badC at hC
    have h2 := of_decide_eq_false hC
    have := hG.1.2.2
    omega
  have hCC : ColsOK ar [((c : Nat) : Int)] := fun i hi => by
    have : i = 0 := by have h : i < 1 := hi; omega
    subst this
    exact ⟨hC, fun k hk => by omega⟩
  have hcin : ∀ i, i < ls.length → 0 ≤ el ls i ∧ el ls i < ar := fun i hi => by
    have h1 := (hG.2 i hi).1
    unfold badC at h1
    have h2 := of_decide_eq_false h1
    omega
  have hcl : ls.length ≤ 16 := cols_len hG.2 hG.1.2.2
  refine enter Tryd.func14 rfl 103 Tryd.ntmps14 rfl ?_
  refine seqK fun Q1 kn2 kr3 ke4 => ?_
  refine region ?_
  refine st_e (e_box (v := .agg #[.string pr, .int .i64 ar, .slice a L.length ca]) rfl ?_)
  intro w5 hA6
  have hx7 := hA6.ext
  have hs8 := hA6.size
  have hB9 : Blk w5.heap w0.heap.size [.string pr, .int .i64 ar, .slice a L.length ca] 29 := hA6.new
  have hE10 : Below w0.heap.size w0 w5 := hx7.e hE0 (Nat.le_refl _)
  have hz11 := hE10.le
  have hs12 := hx7.size
  refine st_q (v := .slice none 0 0) (x_assign rfl) ?_
  refine st_q (v := .int .i64 ((0 : Nat) : Int)) (x_assign rfl) ?_
  refine st_nil ?_
  refine kn2 _ _ ?_
  refine seqK fun Q13 kn14 kr15 ke16 => ?_
  refine seqK fun Q17 kn18 kr19 ke20 => ?_
  refine region ?_
  refine st_q (v := .agg #[.string pr, .int .i64 ar, .slice a L.length ca]) (x_loadA [.string pr, .int .i64 ar, .slice a L.length ca] T.ag29 rfl (hB9.cells 0 [.string pr, .int .i64 ar, .slice a L.length ca] (cells_at rfl))) ?_
  refine st_c (t_call [.agg #[.string pr, .int .i64 ar, .slice a L.length ca]] T.cf34 rfl rfl) (right34 pr ar L _ _ (ha.below hE10) (RowsP.below hL hE10)) ?_
  rintro _ w21 ⟨rfl, hx22⟩
  refine ⟨_, rfl, ?_⟩
  have hB23 := hB9.ext hx22
  have hE24 : Below w0.heap.size w0 w21 := hx22.e hE10 (Nat.le_refl _)
  have hz25 := hE24.le
  have hs26 := hx22.size
  refine st_q (v := .bool (decide (¬ (RightR ar (tp L))))) (x_notP rfl) ?_
  refine st_if (p := ¬ (RightR ar (tp L))) (x_move rfl) (fun h27 => ?_) (fun h27 => ?_)
  ·
    exact absurd h27 (not_not_intro hG.1)
  ·
    refine st_gq 3 19 rfl rfl (by decide) ?_
    refine st_q (v := .agg #[.string pr, .int .i64 ar, .slice a L.length ca]) (x_loadA [.string pr, .int .i64 ar, .slice a L.length ca] T.ag29 rfl (hB23.cells 0 [.string pr, .int .i64 ar, .slice a L.length ca] (cells_at rfl))) ?_
    refine st_gq 3 19 rfl rfl (by decide) ?_
    refine st_q (v := .slice b ls.length cb) (x_move rfl) ?_
    refine st_gq 3 19 rfl rfl (by decide) ?_
    refine st_c (t_call [.agg #[.string pr, .int .i64 ar, .slice a L.length ca], .slice b ls.length cb] T.cf35 rfl rfl) (columns35 pr ar _ ls _ _ (hb.below hE24)) ?_
    rintro _ w28 ⟨rfl, hx29⟩
    refine ⟨_, rfl, ?_⟩
    have hB30 := hB23.ext hx29
    have hE31 : Below w0.heap.size w0 w28 := hx29.e hE24 (Nat.le_refl _)
    have hz32 := hE31.le
    have hs33 := hx29.size
    refine st_gq 3 19 rfl rfl (by decide) ?_
    refine st_q (v := .bool (decide (¬ (ColsOK ar ls)))) (x_notP rfl) ?_
    refine st_q (v := .bool (decide (¬ (ColsOK ar ls)))) (x_pickF rfl rfl) ?_
    refine st_if (p := ¬ (ColsOK ar ls)) (x_move rfl) (fun h34 => ?_) (fun h34 => ?_)
    ·
      exact absurd h34 (not_not_intro hG.2)
    ·
      refine st_gq 9 25 rfl rfl (by decide) ?_
      refine st_q (v := .int .i64 ((c : Nat) : Int)) (x_move rfl) ?_
      refine st_gq 9 25 rfl rfl (by decide) ?_
      refine st_q (v := .bool (decide ((((c : Nat) : Int)) ≠ (-1)))) (x_neq rfl rfl) ?_
      refine st_gq 9 25 rfl rfl (by decide) ?_
      refine st_if (p := (((c : Nat) : Int)) ≠ (-1)) (x_move rfl) (fun h35 => ?_) (fun h35 => ?_)
      ·
        refine st_gq 12 28 rfl rfl (by decide) ?_
        refine st_q (v := .agg #[.string pr, .int .i64 ar, .slice a L.length ca]) (x_loadA [.string pr, .int .i64 ar, .slice a L.length ca] T.ag29 rfl (hB30.cells 0 [.string pr, .int .i64 ar, .slice a L.length ca] (cells_at rfl))) ?_
        refine st_gq 12 28 rfl rfl (by decide) ?_
        refine st_q (v := .int .i64 ((c : Nat) : Int)) (x_move rfl) ?_
        refine st_gq 12 28 rfl rfl (by decide) ?_
        refine st_e (e_buildSlice (cs := [.int .i64 ((c : Nat) : Int)]) (e := 3) (fun _ => by kernel_rfl) ?_)
        intro w36 hA37
        have hx38 := hA37.ext
        have hs39 := hA37.size
        have hB40 : Blk w36.heap w28.heap.size [.int .i64 ((c : Nat) : Int)] 3 := hA37.new
        have hB41 := hB30.ext hx38
        have hE42 : Below w0.heap.size w0 w36 := hx38.e hE31 (Nat.le_refl _)
        have hz43 := hE42.le
        have hs44 := hx38.size
        refine st_gq 12 28 rfl rfl (by decide) ?_
        refine st_c (t_call [.agg #[.string pr, .int .i64 ar, .slice a L.length ca], .slice ((some ⟨w28.heap.size, 0, none⟩)) 1 1] T.cf35 rfl rfl) (columns35 pr ar _ ([((c : Nat) : Int)]) _ _ (hB40.src1 (k := 1) (m := 1) rfl (by omega))) ?_
        rintro _ w45 ⟨rfl, hx46⟩
        refine ⟨_, rfl, ?_⟩
        have hB47 := hB41.ext hx46
        have hB48 := hB40.ext hx46
        have hE49 : Below w0.heap.size w0 w45 := hx46.e hE42 (Nat.le_refl _)
        have hz50 := hE49.le
        have hs51 := hx46.size
        refine st_gq 12 28 rfl rfl (by decide) ?_
        refine st_q (v := .bool (decide (¬ (ColsOK ar [((c : Nat) : Int)])))) (x_notP rfl) ?_
        refine st_gq 9 25 rfl rfl (by decide) ?_
        refine st_q (v := .bool (decide (¬ (ColsOK ar [((c : Nat) : Int)])))) (x_pickT rfl rfl) ?_
        refine st_q (v := .bool (decide (¬ (ColsOK ar [((c : Nat) : Int)])))) (x_pickF rfl rfl) ?_
        refine st_nil ?_
        refine kn18 _ _ ?_
        refine cnd (p := ¬ (ColsOK ar [((c : Nat) : Int)])) rfl (fun h52 => ?_) (fun h52 => ?_)
        ·
          exact absurd h52 (not_not_intro hCC)
        ·
          refine skip ?_
          refine kn14 _ _ ?_
          refine seqK fun Q53 kn54 kr55 ke56 => ?_
          refine region ?_
          refine st_q (v := .pointer (some ⟨w0.heap.size, 2, none⟩)) (x_field (o := 0) T.fa29_2 rfl) ?_
          refine st_q (v := .slice a L.length ca) (x_load1 T.na27 rfl (hB47.one 2 rfl)) ?_
          have hw : ∀ x ∈ L, x.2.length ≤ 4398046511104 := fun x hx => by have h : ((x.2.length : Nat) : Int) = ar := hG.1.1 _ (show x.2 ∈ tp L from List.mem_map_of_mem hx); have := hG.1.2.2; omega
          refine st_c (t_call [.slice a L.length ca] T.cf22 rfl rfl) (refset22 L _ _ (ha.below hE49) (RowsP.below hL hE49) (by omega) hw) ?_
          rintro _ w57 ⟨vR, R, rfl, hx58, hRt, hO59, hRW⟩
          refine ⟨_, rfl, ?_⟩
          have hB60 := hB47.ext hx58
          have hB61 := hB48.ext hx58
          have hE62 : Below w0.heap.size w0 w57 := hx58.e hE49 (Nat.le_refl _)
          have hz63 := hE62.le
          have hs64 := hx58.size
          have hRn : R.length ≤ L.length := by have h := congrArg List.length hRt; rw [tp_len] at h; have h2 := setL_len (tp L); rw [tp_len] at h2; omega
          have hRm : ∀ x ∈ R, x.2 ∈ tp L := fun x hx => by have h : x.2 ∈ tp R := List.mem_map_of_mem hx; rw [hRt] at h; exact ((setL_is _).2 _).1 h
          have hRlen : ∀ x ∈ R, (x.2.length : Int) = ar := fun x hx => hG.1.1 _ (hRm x hx)
          have hRsz : SizeL R := fun x hx s hs => by obtain ⟨y, hy, e⟩ := List.mem_map.1 (hRm x hx); exact hsz y hy s (by rw [e]; exact hs)
          have hRG : RightR ar (tp R) ∧ ColsOK ar ls := ⟨⟨fun t ht => by rw [hRt] at ht; exact hG.1.1 _ (((setL_is _).2 _).1 ht), hG.1.2⟩, hG.2⟩
          have hEA := hE62
          have hzA := hEA.le
          obtain ⟨aR, cR, rfl, hcR, hcR1⟩ := hO59.src.form
          have hRs := hO59.src
          have hRP := hRW.rowsP
          have hbA := hb.below hEA
          have hE65 : Below w57.heap.size w57 w57 := Below.refl _ _
          have hz66 := hE65.le
          refine st_q (v := .slice aR R.length cR) (x_assign rfl) ?_
          refine st_nil ?_
          refine kn54 _ _ ?_
          refine seqK fun Q67 kn68 kr69 ke70 => ?_
          refine region ?_
          refine st_q (v := .slice none 0 0) (x_assign rfl) ?_
          refine st_nil ?_
          refine kn68 _ _ ?_
          refine seqK fun Q71 kn72 kr73 ke74 => ?_
          refine seqK fun Q75 kn76 kr77 ke78 => ?_
          refine region ?_
          refine st_q (v := .int .i64 ((0 : Nat) : Int)) (x_assign rfl) ?_
          refine st_nil ?_
          refine kn76 _ _ ?_
          refine blockK fun Q79 kn80 kr81 kx82 kb83 => ?_
          refine loopK (α := Nat × (List Row) × Value) (fun x => [(1, .int .i64 ((c : Nat) : Int)), (2, .slice b ls.length cb), (8, .slice aR R.length cR), (9, x.2.2), (10, .int .i64 ((x.1 : Nat) : Int))]) (fun x w84 => Below w57.heap.size w57 w84 ∧ x.1 ≤ R.length ∧ tp x.2.1 = (tp (R.take x.1)).map (fun t => cutL t ls) ∧ Own w84.heap w57.heap.size 42 1 x.2.2 x.1 (flat enR x.2.1) ∧ RowsW w84.heap w57.heap.size x.2.1) (fun x => R.length - x.1) (0, [], .slice none 0 0) ⟨rfl, rfl, rfl, rfl, rfl, trivial⟩ ?_ ?_
          ·
            refine ⟨hE65, ?_⟩
            try dsimp only
            exact ⟨Nat.zero_le _, rfl, Own.nil _ _ _ _, RowsW.nil _ _⟩
          ·
            rintro τ85 ⟨i, K, vl⟩ w86 ⟨hx87, ⟨hi, hKt, hO, hW⟩⟩
            try dsimp only at hi hKt hO hW
            have hz88 := hx87.le
            intro Q89 kn90 kr91 ke92
            obtain ⟨aV, cV, rfl, hcV, hcV1⟩ := hO.src.form
            refine seqK fun Q93 kn94 kr95 ke96 => ?_
            refine seqK fun Q97 kn98 kr99 ke100 => ?_
            refine region ?_
            refine st_q (v := .int .i64 ((i : Nat) : Int)) (x_move rfl) ?_
            refine st_q (v := .slice aR R.length cR) (x_move rfl) ?_
            refine st_q (v := .int .i64 ((R.length : Nat) : Int)) (x_lenSl rfl Tryd.underlying27 rfl) ?_
            refine st_q (v := .bool (decide (i < R.length))) (x_lssN rfl rfl) ?_
            refine st_nil ?_
            refine kn98 _ _ ?_
            refine cnd (p := i < R.length) rfl (fun h101 => ?_) (fun h101 => ?_)
            ·
              refine skip ?_
              refine kn94 _ _ ?_
              refine seqK fun Q102 kn103 kr104 ke105 => ?_
              refine blockK fun Q106 kn107 kr108 kx109 kb110 => ?_
              refine region ?_
              refine st_q (v := .slice aV i cV) (x_move rfl) ?_
              refine st_q (v := .slice aR R.length cR) (x_move rfl) ?_
              refine st_q (v := .int .i64 ((i : Nat) : Int)) (x_move rfl) ?_
              obtain ⟨b111, o112, ha113, hc114⟩ := hRs.at (by omega)
              refine st_q (v := .pointer (some ⟨b111, o112 + i * 1, none⟩)) (x_index' T.sl27 rfl ha113 rfl (by omega)) ?_
              have hs115 := hRP _ (el_mem' (xs := R) (i := i) (by omega))
              have htl := hRlen _ (el_mem' (xs := R) (i := i) (by omega))
              refine st_q (v := .slice ((el R i).1.1) ((el R i).2.length) ((el R i).1.2)) (x_load1 T.na42 rfl ((hc114.below hx87).elem enR_len (i := i) (by omega))) ?_
              refine st_q (v := .slice b ls.length cb) (x_move rfl) ?_
              refine st_c (t_call [.slice ((el R i).1.1) ((el R i).2.length) ((el R i).1.2), .slice b ls.length cb] T.cf36 rfl rfl) (cut36 (el R i).2 ls _ _ _ (Src.below (hRP _ (el_mem' (by omega))) hx87) (hbA.below hx87) (fun j hj => by have := hcin j hj; omega) (by omega)) ?_
              rintro _ w116 ⟨v119, rfl, hx117, hO118⟩
              refine ⟨_, rfl, ?_⟩
              have hF120 := hO.ext hx117
              have hF121 := hW.ext hx117
              have hE122 : Below w57.heap.size w57 w116 := hx117.e hx87 (Nat.le_refl _)
              have hz123 := hE122.le
              have hs124 := hx117.size
              have hcu := hO118.weak (lo' := w57.heap.size) (by omega)
              rw [← cutL_len (el R i).2 ls] at hcu
              obtain ⟨aC, cC, rfl, hcC, hcC1⟩ := hcu.src.form
              have hW125 : RowsW w116.heap w57.heap.size (K ++ [((aC, cC), cutL (el R i).2 ls)]) := hF121.snoc hcu
              refine st_e (e_buildSlice (cs := [.slice aC ((cutL (el R i).2 ls).length) cC]) (e := 42) (fun _ => by kernel_rfl) ?_)
              intro w126 hA127
              have hx128 := hA127.ext
              have hs129 := hA127.size
              have hB130 : Blk w126.heap w116.heap.size [.slice aC ((cutL (el R i).2 ls).length) cC] 42 := hA127.new
              have hF131 := hF120.ext hx128
              have hF132 := hW125.ext hx128
              have hE133 : Below w57.heap.size w57 w126 := hx128.e hE122 (Nat.le_refl _)
              have hz134 := hE133.le
              have hs135 := hx128.size
              refine st_e (e_appendX T.sl27 rfl rfl hF131 (hB130.src1 (k := 1) (m := 1) rfl (by omega)) (ones (by rfl)) (by omega) (by decide) (by omega) ?_)
              intro v136 w137 hO138 hG139 hN140 hW141
              have hF142 := hF132.gk (hG139) (hF131.rowk) (by decide)
              have hE143 : Below w57.heap.size w57 w137 := grown_below hG139 hE133 (Nat.le_refl _) (fun b hb => (by have := (hF131.lt hb).1; clear hb; omega))
              have hz144 := hE143.le
              have hs145 := hG139.size
              have hO146 := Own.snoc (enc := enR) (u := ((aC, cC), cutL (el R i).2 ls)) hO138
              obtain ⟨a147, c148, rfl, hm149, hm150⟩ := hO146.src.form
              refine st_q (v := .slice a147 ((i + 1)) c148) (x_assign rfl) ?_
              refine st_nil ?_
              refine kn107 _ _ ?_
              refine kn103 _ _ ?_
              refine region ?_
              refine st_q (v := .int .i64 ((i : Nat) : Int)) (x_move rfl) ?_
              refine st_q (v := .int .i64 (((i + 1) : Nat) : Int)) (x_addN rfl rfl (by omega)) ?_
              refine st_q (v := .int .i64 (((i + 1) : Nat) : Int)) (x_assign rfl) ?_
              refine st_nil ?_
              refine kn90 _ ((i + 1), (K ++ [((aC, cC), cutL (el R i).2 ls)]), .slice a147 ((i + 1)) c148) _ ⟨rfl, rfl, rfl, rfl, rfl, trivial⟩ ⟨hE143, ?_⟩ ?_
              ·
                try dsimp only
                exact ⟨by omega, by rw [tp_take_succ (by omega), List.map_append, ← hKt]; simp [tp], hO146, hF142⟩
              ·
                (try dsimp only); omega
            ·
              refine exit ?_
              refine ke96 _ _ _ ?_
              refine ke92 _ _ _ ?_
              refine kb83 _ _ ?_
              refine kn72 _ _ ?_
              refine seqK fun Q151 kn152 kr153 ke154 => ?_
              refine region ?_
              refine st_q (v := .slice aV i cV) (x_move rfl) ?_
              have ei : i = R.length := by omega
              have hKl : K.length = i := by have h := congrArg List.length hKt; rw [tp_len, List.length_map, tp_len, List.length_take] at h; omega
              rw [ei, List.take_length] at hKt
              have hK1 : ∀ x ∈ K, x.2.length ≤ 4398046511104 := fun x hx => by have h : x.2 ∈ tp K := List.mem_map_of_mem hx; rw [hKt] at h; obtain ⟨t, _, e⟩ := List.mem_map.1 h; rw [← e, cutL_len]; omega
              have hKs : Src w86.heap (.slice aV i cV) K.length 1 (flat enR K) := by rw [hKl]; exact hO.src
              have hKP := hW.rowsP
              refine st_c (t_call [.slice aV i cV] T.cf22 rfl rfl) (refset22 K _ _ hKs hKP (by omega) hK1) ?_
              rintro _ w155 ⟨vA, A, rfl, hx156, hAt, hO157, hAW⟩
              refine ⟨_, rfl, ?_⟩
              have hF158 := hO.ext hx156
              have hF159 := hW.ext hx156
              have hE160 : Below w57.heap.size w57 w155 := hx156.e hx87 (Nat.le_refl _)
              have hz161 := hE160.le
              have hs162 := hx156.size
              rw [hKt, hRt] at hAt
              have hEAB := hE160
              have hEB := Below.e hEAB hEA (Nat.le_refl _)
              have hzAB := hEAB.le
              have hzB := hEB.le
              obtain ⟨aA, cA, rfl, hcA, hcA1⟩ := hO157.src.form
              have hAs := hO157.src
              have hAP := hAW.rowsP
              have hKsB := hKs.ext hx156
              have hKPB := RowsP.ext' hKP hx156
              have hRsB := hRs.below hEAB
              have hRPB := RowsP.below hRP hEAB
              have hbB := hbA.below hEAB
              have hAn : A.length ≤ K.length := by have h := congrArg List.length hAt; rw [tp_len] at h; have h2 := setL_len ((setL (tp L)).map fun t => cutL t ls); rw [List.length_map, ← hRt, tp_len] at h2; rw [← hRt] at h; omega
              have hE163 : Below w155.heap.size w155 w155 := Below.refl _ _
              have hz164 := hE163.le
              refine st_q (v := .slice aA A.length cA) (x_assign rfl) ?_
              refine st_nil ?_
              refine kn152 _ _ ?_
              refine seqK fun Q165 kn166 kr167 ke168 => ?_
              refine region ?_
              refine st_q (v := .slice none 0 0) (x_assign rfl) ?_
              refine st_nil ?_
              refine kn166 _ _ ?_
              refine seqK fun Q169 kn170 kr171 ke172 => ?_
              refine seqK fun Q173 kn174 kr175 ke176 => ?_
              refine region ?_
              refine st_q (v := .int .i64 ((0 : Nat) : Int)) (x_assign rfl) ?_
              refine st_nil ?_
              refine kn174 _ _ ?_
              refine blockK fun Q177 kn178 kr179 kx180 kb181 => ?_
              refine loopK (α := Nat × (List Grp) × Value) (fun x => [(1, .int .i64 ((c : Nat) : Int)), (2, .slice b ls.length cb), (8, .slice aR R.length cR), (9, .slice aV i cV), (11, .slice aA A.length cA), (12, x.2.2), (13, .int .i64 ((x.1 : Nat) : Int))]) (fun x w182 => Below w155.heap.size w155 w182 ∧ x.1 ≤ A.length ∧ x.2.1.length = x.1 ∧ Own w182.heap w155.heap.size 44 8 x.2.2 x.1 (flat enG x.2.1) ∧ ∀ j, j < x.1 → FillR (numsL c ((setL (tp L)).filter (fun t => decide (cutL t ls = (el A j).2)))) (g0 (el A j).1.1 (el A j).1.2 (el A j).2 ((((setL (tp L)).filter (fun t => decide (cutL t ls = (el A j).2))).length : Nat) : Int)) (el x.2.1 j)) (fun x => A.length - x.1) (0, [], .slice none 0 0) ⟨rfl, rfl, rfl, rfl, rfl, rfl, rfl, trivial⟩ ?_ ?_
              ·
                refine ⟨hE163, ?_⟩
                try dsimp only
                exact ⟨Nat.zero_le _, rfl, Own.nil _ _ _ _, fun j h => by omega⟩
              ·
                rintro τ183 ⟨i3, G, vl⟩ w184 ⟨hx185, ⟨hi3, hGl, hO2, hrel⟩⟩
                try dsimp only at hi3 hGl hO2 hrel
                have hz186 := hx185.le
                intro Q187 kn188 kr189 ke190
                obtain ⟨aV2, cV2, rfl, hcV2, hcV3⟩ := hO2.src.form
                have hlV : ∀ z, Value.ownBlock (.slice aV2 i3 cV2) = some z → z < w184.heap.size := fun z e => (hO2.lt e).2
                refine seqK fun Q191 kn192 kr193 ke194 => ?_
                refine seqK fun Q195 kn196 kr197 ke198 => ?_
                refine region ?_
                refine st_q (v := .int .i64 ((i3 : Nat) : Int)) (x_move rfl) ?_
                refine st_q (v := .slice aA A.length cA) (x_move rfl) ?_
                refine st_q (v := .int .i64 ((A.length : Nat) : Int)) (x_lenSl rfl Tryd.underlying27 rfl) ?_
                refine st_q (v := .bool (decide (i3 < A.length))) (x_lssN rfl rfl) ?_
                refine st_nil ?_
                refine kn196 _ _ ?_
                refine cnd (p := i3 < A.length) rfl (fun h199 => ?_) (fun h199 => ?_)
                ·
                  refine skip ?_
                  refine kn192 _ _ ?_
                  refine seqK fun Q200 kn201 kr202 ke203 => ?_
                  refine blockK fun Q204 kn205 kr206 kx207 kb208 => ?_
                  refine seqK fun Q209 kn210 kr211 ke212 => ?_
                  refine region ?_
                  refine st_q (v := .slice aA A.length cA) (x_move rfl) ?_
                  refine st_q (v := .int .i64 ((i3 : Nat) : Int)) (x_move rfl) ?_
                  obtain ⟨b213, o214, ha215, hc216⟩ := hAs.at (by omega)
                  refine st_q (v := .pointer (some ⟨b213, o214 + i3 * 1, none⟩)) (x_index' T.sl27 rfl ha215 rfl (by omega)) ?_
                  refine st_q (v := .slice ((el A i3).1.1) ((el A i3).2.length) ((el A i3).1.2)) (x_load1 T.na42 rfl ((hc216.below hx185).elem enR_len (i := i3) (by omega))) ?_
                  refine st_q (v := .agg #[.slice ((el A i3).1.1) ((el A i3).2.length) ((el A i3).1.2), .int .i64 ((0 : Nat) : Int), .int .i64 ((0 : Nat) : Int), .float .f64 0, .float .f64 0, .float .f64 0, .float .f64 0, .float .f64 0]) (x_build (fun _ => by kernel_rfl)) ?_
                  refine st_e (e_alloc T.zv44 ?_)
                  intro w217 hA218
                  have hx219 := hA218.ext
                  have hs220 := hA218.size
                  have hB221 : Blk w217.heap w184.heap.size [.slice none 0 0, .int .i64 ((0 : Nat) : Int), .int .i64 ((0 : Nat) : Int), .float .f64 0, .float .f64 0, .float .f64 0, .float .f64 0, .float .f64 0] 44 := hA218.new
                  have hF222 := hO2.ext hx219
                  have hE223 : Below w155.heap.size w155 w217 := hx219.e hx185 (Nat.le_refl _)
                  have hz224 := hE223.le
                  have hs225 := hx219.size
                  refine st_s (e_st (v := .agg #[.slice ((el A i3).1.1) ((el A i3).2.length) ((el A i3).1.2), .int .i64 ((0 : Nat) : Int), .int .i64 ((0 : Nat) : Int), .float .f64 0, .float .f64 0, .float .f64 0, .float .f64 0, .float .f64 0]) T.sz44 rfl rfl hB221 (by simp [Value.cells]) (by rfl) ?_)
                  intro w226 hP227
                  have hB228 : Blk w226.heap w184.heap.size [.slice ((el A i3).1.1) ((el A i3).2.length) ((el A i3).1.2), .int .i64 ((0 : Nat) : Int), .int .i64 ((0 : Nat) : Int), .float .f64 0, .float .f64 0, .float .f64 0, .float .f64 0, .float .f64 0] 44 := hP227.new
                  have hs229 := hP227.size
                  have hF230 := hF222.pt hP227 (by intro e; have := hlV _ e; omega)
                  have hE231 : Below w155.heap.size w155 w226 := hP227.below hE223 (by omega)
                  have hz232 := hE231.le
                  refine st_nil ?_
                  refine kn210 _ _ ?_
                  refine seqK fun Q233 kn234 kr235 ke236 => ?_
                  refine seqK fun Q237 kn238 kr239 ke240 => ?_
                  refine region ?_
                  refine st_q (v := .int .i64 ((0 : Nat) : Int)) (x_assign rfl) ?_
                  refine st_nil ?_
                  refine kn238 _ _ ?_
                  refine blockK fun Q241 kn242 kr243 kx244 kb245 => ?_
                  refine loopK (α := Nat) (fun x => [(1, .int .i64 ((c : Nat) : Int)), (2, .slice b ls.length cb), (8, .slice aR R.length cR), (9, .slice aV i cV), (11, .slice aA A.length cA), (12, .slice aV2 i3 cV2), (13, .int .i64 ((i3 : Nat) : Int)), (14, .pointer (some ⟨w184.heap.size, 0, none⟩)), (15, .int .i64 ((x : Nat) : Int))]) (fun x w246 => Below w155.heap.size w155 w246 ∧ (x ≤ K.length ∧ Blk w246.heap w184.heap.size [.slice ((el A i3).1.1) ((el A i3).2.length) ((el A i3).1.2), .int .i64 ((((tp (K.take x)).filter (fun t => decide (t = (el A i3).2))).length : Nat) : Int), .int .i64 ((0 : Nat) : Int), .float .f64 0, .float .f64 0, .float .f64 0, .float .f64 0, .float .f64 0] 44) ∧ Own w246.heap w155.heap.size 44 8 (.slice aV2 i3 cV2) i3 (flat enG G)) (fun x => K.length - x) (0) ⟨rfl, rfl, rfl, rfl, rfl, rfl, rfl, rfl, rfl, trivial⟩ ?_ ?_
                  ·
                    refine ⟨hE231, ?_⟩
                    try dsimp only
                    refine ⟨?_, hF230⟩
                    exact ⟨Nat.zero_le _, hB228⟩
                  ·
                    rintro τ247 k w248 ⟨hx250, ⟨⟨hk, hB14⟩, hC249⟩⟩
                    try dsimp only at hk hB14 hC249
                    have hz251 := hx250.le
                    intro Q252 kn253 kr254 ke255
                    have hcnl : ((tp (K.take k)).filter (fun t => decide (t = (el A i3).2))).length ≤ k := Nat.le_trans (List.length_filter_le _ _) (by rw [tp_len, List.length_take]; omega)
                    refine seqK fun Q256 kn257 kr258 ke259 => ?_
                    refine seqK fun Q260 kn261 kr262 ke263 => ?_
                    refine region ?_
                    refine st_q (v := .int .i64 ((k : Nat) : Int)) (x_move rfl) ?_
                    refine st_q (v := .slice aV i cV) (x_move rfl) ?_
                    refine st_q (v := .int .i64 ((i : Nat) : Int)) (x_lenSl rfl Tryd.underlying27 rfl) ?_
                    refine st_q (v := .bool (decide (k < i))) (x_lssN rfl rfl) ?_
                    refine st_nil ?_
                    refine kn261 _ _ ?_
                    refine cnd (p := k < i) rfl (fun h264 => ?_) (fun h264 => ?_)
                    ·
                      refine skip ?_
                      refine kn257 _ _ ?_
                      refine seqK fun Q265 kn266 kr267 ke268 => ?_
                      refine blockK fun Q269 kn270 kr271 kx272 kb273 => ?_
                      refine seqK fun Q274 kn275 kr276 ke277 => ?_
                      refine regionD1 [3, 7] [0, 1, 2, 3, 4, 5, 6, 7] (.one 0 (.one 1 (.one 2 (.one 3 (.one 4 (.one 5 (.one 6 (.one 7 (.one 8 .done))))))))) (by kernel_rfl) (by kernel_rfl) ?_
                      intro w278 hx279 hs280
                      have hB281 := hB14.ext hx279
                      have hF282 := hC249.ext hx279
                      have hE283 : Below w155.heap.size w155 w278 := hx279.e hx250 (Nat.le_refl _)
                      have hz284 := hE283.le
                      have hs285 := hx279.size
                      have hS286 : Ext w278 w278 := Below.refl _ _
                      refine d_q (v := .slice aV i cV) rfl rfl (fun _ => x_move rfl) ?_
                      refine d_q (v := .int .i64 ((k : Nat) : Int)) rfl rfl (fun _ => x_move rfl) ?_
                      obtain ⟨b287, o288, ha289, hc290⟩ := hKsB.at (by omega)
                      refine d_q (v := .pointer (some ⟨b287, o288 + k * 1, none⟩)) rfl rfl (fun _ => x_index' T.sl27 rfl ha289 rfl (by omega)) ?_
                      refine d_l (v := .slice ((el K k).1.1) ((el K k).2.length) ((el K k).1.2)) rfl rfl rfl (fun v292 hw291 => x_load1 T.na42 rfl (((hc290.below hE283).elem enR_len (i := k) (by omega)).ext hw291)) ?_
                      refine d_q (v := .slice aA A.length cA) rfl rfl (fun _ => x_move rfl) ?_
                      refine d_q (v := .int .i64 ((i3 : Nat) : Int)) rfl rfl (fun _ => x_move rfl) ?_
                      refine d_q (v := .pointer (some ⟨b213, o214 + i3 * 1, none⟩)) rfl rfl (fun _ => x_index' T.sl27 rfl ha215 rfl (by omega)) ?_
                      refine d_l (v := .slice ((el A i3).1.1) ((el A i3).2.length) ((el A i3).1.2)) rfl rfl rfl (fun v294 hw293 => x_load1 T.na42 rfl (((hc216.below hE283).elem enR_len (i := i3) (by omega)).ext hw293)) ?_
                      refine d_e (by decide) (d_c' rfl rfl (t_call [.slice ((el K k).1.1) ((el K k).2.length) ((el K k).1.2), .slice ((el A i3).1.1) ((el A i3).2.length) ((el A i3).1.2)] T.cf21 rfl rfl) (same21 (el K k).2 (el A i3).2 _ _ _ (Src.below (hKPB _ (el_mem' (by omega))) hE283) (Src.below (hAP _ (el_mem' (by omega))) hE283)) ?_)
                      rintro _ w295 ⟨rfl, hx296⟩
                      refine ⟨_, rfl, ?_⟩
                      have hB297 := hB281.ext hx296
                      have hF298 := hF282.ext hx296
                      have hE299 : Below w155.heap.size w155 w295 := hx296.e hE283 (Nat.le_refl _)
                      have hz300 := hE299.le
                      have hs301 := hx296.size
                      have hS302 := hS286.trans (hx296.mono hS286.size)
                      refine ⟨fun _ => hS302, ?_⟩
                      refine d_done ?_
                      refine kn275 _ _ ?_
                      refine cnd (p := (el K k).2 = (el A i3).2) rfl (fun h303 => ?_) (fun h303 => ?_)
                      ·
                        refine region ?_
                        refine st_q (v := .pointer (some ⟨w184.heap.size, 1, none⟩)) (x_field (o := 0) T.fa44_1 rfl) ?_
                        refine st_q (v := .int .i64 ((((tp (K.take k)).filter (fun t => decide (t = (el A i3).2))).length : Nat) : Int)) (x_load1 T.na3 rfl (hB297.one 1 rfl)) ?_
                        refine st_q (v := .int .i64 (((((tp (K.take k)).filter (fun t => decide (t = (el A i3).2))).length + 1) : Nat) : Int)) (x_addN rfl rfl (by omega)) ?_
                        refine st_q (v := .pointer (some ⟨w184.heap.size, 1, none⟩)) (x_field (o := 0) T.fa44_1 rfl) ?_
                        refine st_s (e_st (v := .int .i64 (((((tp (K.take k)).filter (fun t => decide (t = (el A i3).2))).length + 1) : Nat) : Int)) T.sz3 rfl rfl hB297 (by simp [Value.cells]) (by rfl) ?_)
                        intro w304 hP305
                        have hB306 : Blk w304.heap w184.heap.size [.slice ((el A i3).1.1) ((el A i3).2.length) ((el A i3).1.2), .int .i64 (((((tp (K.take k)).filter (fun t => decide (t = (el A i3).2))).length + 1) : Nat) : Int), .int .i64 ((0 : Nat) : Int), .float .f64 0, .float .f64 0, .float .f64 0, .float .f64 0, .float .f64 0] 44 := hP305.new
                        have hs307 := hP305.size
                        have hF308 := hF298.pt hP305 (by intro e; have := hlV _ e; omega)
                        have hE309 : Below w155.heap.size w155 w304 := hP305.below hE299 (by omega)
                        have hz310 := hE309.le
                        refine st_nil ?_
                        refine kn270 _ _ ?_
                        refine kn266 _ _ ?_
                        refine region ?_
                        refine st_q (v := .int .i64 ((k : Nat) : Int)) (x_move rfl) ?_
                        refine st_q (v := .int .i64 (((k + 1) : Nat) : Int)) (x_addN rfl rfl (by omega)) ?_
                        refine st_q (v := .int .i64 (((k + 1) : Nat) : Int)) (x_assign rfl) ?_
                        refine st_nil ?_
                        refine kn253 _ ((k + 1)) _ ⟨rfl, rfl, rfl, rfl, rfl, rfl, rfl, rfl, rfl, trivial⟩ ⟨hE309, ?_⟩ ?_
                        ·
                          try dsimp only
                          refine ⟨?_, hF308⟩
                          refine ⟨by omega, ?_⟩
                          have e : ((tp (K.take (k + 1))).filter (fun t => decide (t = (el A i3).2))).length = ((tp (K.take k)).filter (fun t => decide (t = (el A i3).2))).length + 1 := by rw [tp_take_succ (by omega), List.filter_append, List.length_append]; simp [(by assumption : (el K k).2 = (el A i3).2)]
                          rw [e]; exact hB306
                        ·
                          (try dsimp only); omega
                      ·
                        refine skip ?_
                        refine kn270 _ _ ?_
                        refine kn266 _ _ ?_
                        refine region ?_
                        refine st_q (v := .int .i64 ((k : Nat) : Int)) (x_move rfl) ?_
                        refine st_q (v := .int .i64 (((k + 1) : Nat) : Int)) (x_addN rfl rfl (by omega)) ?_
                        refine st_q (v := .int .i64 (((k + 1) : Nat) : Int)) (x_assign rfl) ?_
                        refine st_nil ?_
                        refine kn253 _ ((k + 1)) _ ⟨rfl, rfl, rfl, rfl, rfl, rfl, rfl, rfl, rfl, trivial⟩ ⟨hE299, ?_⟩ ?_
                        ·
                          try dsimp only
                          refine ⟨?_, hF298⟩
                          refine ⟨by omega, ?_⟩
                          have e : ((tp (K.take (k + 1))).filter (fun t => decide (t = (el A i3).2))).length = ((tp (K.take k)).filter (fun t => decide (t = (el A i3).2))).length := by rw [tp_take_succ (by omega), List.filter_append, List.length_append]; simp [(by assumption : ¬ (el K k).2 = (el A i3).2)]
                          rw [e]; exact hB297
                        ·
                          (try dsimp only); omega
                    ·
                      refine exit ?_
                      refine ke259 _ _ _ ?_
                      refine ke255 _ _ _ ?_
                      refine kb245 _ _ ?_
                      refine kn234 _ _ ?_
                      refine seqK fun Q311 kn312 kr313 ke314 => ?_
                      refine seqK fun Q315 kn316 kr317 ke318 => ?_
                      refine region ?_
                      have ecn : ((tp (K.take k)).filter (fun t => decide (t = (el A i3).2))).length = ((setL (tp L)).filter (fun t => decide (cutL t ls = (el A i3).2))).length := by rw [show k = K.length by omega, List.take_length, hKt, hRt, filter_map', List.length_map]
                      have hB319 : Blk w248.heap w184.heap.size [.slice ((el A i3).1.1) ((el A i3).2.length) ((el A i3).1.2), .int .i64 ((((setL (tp L)).filter (fun t => decide (cutL t ls = (el A i3).2))).length : Nat) : Int), .int .i64 ((0 : Nat) : Int), .float .f64 0, .float .f64 0, .float .f64 0, .float .f64 0, .float .f64 0] 44 := by rw [← ecn]; exact hB14
                      refine st_q (v := .int .i64 ((c : Nat) : Int)) (x_move rfl) ?_
                      refine st_q (v := .bool (decide (0 ≤ c))) (x_geqN rfl rfl) ?_
                      refine st_nil ?_
                      refine kn316 _ _ ?_
                      refine cnd (p := 0 ≤ c) rfl (fun h320 => ?_) (fun h320 => ?_)
                      ·
                        refine regionD1 [0, 7] [0, 1, 2, 3, 4, 5, 6, 7] (.one 0 (.one 1 (.one 2 (.one 3 (.one 4 (.one 5 (.one 6 (.one 7 (.one 8 (.one 9 (.one 10 .done))))))))))) (by kernel_rfl) (by kernel_rfl) ?_
                        intro w321 hx322 hs323
                        have hB324 := hB319.ext hx322
                        have hF325 := hC249.ext hx322
                        have hE326 : Below w155.heap.size w155 w321 := hx322.e hx250 (Nat.le_refl _)
                        have hz327 := hE326.le
                        have hs328 := hx322.size
                        have hS329 : Ext w321 w321 := Below.refl _ _
                        refine d_l (v := .agg #[.slice ((el A i3).1.1) ((el A i3).2.length) ((el A i3).1.2), .int .i64 ((((setL (tp L)).filter (fun t => decide (cutL t ls = (el A i3).2))).length : Nat) : Int), .int .i64 ((0 : Nat) : Int), .float .f64 0, .float .f64 0, .float .f64 0, .float .f64 0, .float .f64 0]) rfl rfl rfl (fun v331 hw330 => x_loadA [.slice ((el A i3).1.1) ((el A i3).2.length) ((el A i3).1.2), .int .i64 ((((setL (tp L)).filter (fun t => decide (cutL t ls = (el A i3).2))).length : Nat) : Int), .int .i64 ((0 : Nat) : Int), .float .f64 0, .float .f64 0, .float .f64 0, .float .f64 0, .float .f64 0] T.ag44 rfl ((hB324.cells 0 [.slice ((el A i3).1.1) ((el A i3).2.length) ((el A i3).1.2), .int .i64 ((((setL (tp L)).filter (fun t => decide (cutL t ls = (el A i3).2))).length : Nat) : Int), .int .i64 ((0 : Nat) : Int), .float .f64 0, .float .f64 0, .float .f64 0, .float .f64 0, .float .f64 0] (cells_at rfl)).ext hw330)) ?_
                        refine d_q (v := .slice aR R.length cR) rfl rfl (fun _ => x_move rfl) ?_
                        refine d_q (v := .int .i64 ((c : Nat) : Int)) rfl rfl (fun _ => x_move rfl) ?_
                        refine d_q (v := .slice b ls.length cb) rfl rfl (fun _ => x_move rfl) ?_
                        refine d_q (v := .slice aA A.length cA) rfl rfl (fun _ => x_move rfl) ?_
                        refine d_q (v := .int .i64 ((i3 : Nat) : Int)) rfl rfl (fun _ => x_move rfl) ?_
                        refine d_q (v := .pointer (some ⟨b213, o214 + i3 * 1, none⟩)) rfl rfl (fun _ => x_index' T.sl27 rfl ha215 rfl (by omega)) ?_
                        refine d_l (v := .slice ((el A i3).1.1) ((el A i3).2.length) ((el A i3).1.2)) rfl rfl rfl (fun v333 hw332 => x_load1 T.na42 rfl (((hc216.below hE326).elem enR_len (i := i3) (by omega)).ext hw332)) ?_
                        refine d_e (by decide) (d_c' rfl rfl (t_call [.slice aR R.length cR, .int .i64 ((c : Nat) : Int), .slice b ls.length cb, .slice ((el A i3).1.1) ((el A i3).2.length) ((el A i3).1.2)] T.cf38 rfl rfl) (numbers38 ar R _ c ls _ (el A i3).2 _ _ (hRsB.below hE326) (RowsP.below hRPB hE326) (hbB.below hE326) (Src.below (hAP _ (el_mem' (by omega))) hE326) hRlen hRG hC hRsz (by omega)) ?_)
                        rintro _ w334 ⟨v337, rfl, hx335, hO336⟩
                        refine ⟨_, rfl, ?_⟩
                        have hB338 := hB324.ext hx335
                        have hF339 := hF325.ext hx335
                        have hE340 : Below w155.heap.size w155 w334 := hx335.e hE326 (Nat.le_refl _)
                        have hz341 := hE340.le
                        have hs342 := hx335.size
                        have hS343 := hS329.trans (hx335.mono hS329.size)
                        refine ⟨fun _ => hS343, ?_⟩
                        rw [hRt] at hO336
                        refine d_e (by decide) (d_c' rfl rfl (t_call [.agg #[.slice ((el A i3).1.1) ((el A i3).2.length) ((el A i3).1.2), .int .i64 ((((setL (tp L)).filter (fun t => decide (cutL t ls = (el A i3).2))).length : Nat) : Int), .int .i64 ((0 : Nat) : Int), .float .f64 0, .float .f64 0, .float .f64 0, .float .f64 0, .float .f64 0], v337] T.cf37 rfl rfl) (filled37 (g0 (el A i3).1.1 (el A i3).1.2 (el A i3).2 ((((setL (tp L)).filter (fun t => decide (cutL t ls = (el A i3).2))).length : Nat) : Int)) (numsL c ((setL (tp L)).filter (fun t => decide (cutL t ls = (el A i3).2)))) _ _ hO336.src rfl) ?_)
                        rintro _ w344 ⟨u1, rfl, hx345, hu1⟩
                        refine ⟨_, rfl, ?_⟩
                        have hB346 := hB338.ext hx345
                        have hF347 := hF339.ext hx345
                        have hF348 := hO336.ext hx345
                        have hE349 : Below w155.heap.size w155 w344 := hx345.e hE340 (Nat.le_refl _)
                        have hz350 := hE349.le
                        have hs351 := hx345.size
                        have hS352 := hS343.trans (hx345.mono hS343.size)
                        refine ⟨fun _ => hS352, ?_⟩
                        refine d_e (by decide) (d_s' rfl rfl (e_st (v := .agg #[.slice u1.q u1.key.length u1.c, .int .i64 u1.count, .int .i64 u1.numbers, .float .f64 u1.sum, .float .f64 u1.mean, .float .f64 u1.spread, .float .f64 u1.least, .float .f64 u1.greatest]) T.sz44 rfl rfl hB346 (by simp [Value.cells]) (by rfl) ?_))
                        intro w353 hP354
                        have hB355 : Blk w353.heap w184.heap.size [.slice u1.q u1.key.length u1.c, .int .i64 u1.count, .int .i64 u1.numbers, .float .f64 u1.sum, .float .f64 u1.mean, .float .f64 u1.spread, .float .f64 u1.least, .float .f64 u1.greatest] 44 := hP354.new
                        have hs356 := hP354.size
                        have hF357 := hF347.pt hP354 (by intro e; have := hlV _ e; omega)
                        have hF358 := hF348.gk (hP354.grownBy) (hB346.rowk) (by decide)
                        have hE359 : Below w155.heap.size w155 w353 := hP354.below hE349 (by omega)
                        have hz360 := hE359.le
                        refine ⟨need_no (by kernel_rfl), ?_⟩
                        refine d_done ?_
                        refine kn312 _ _ ?_
                        refine region ?_
                        have hne : Value.ownBlock (.slice aV2 i3 cV2) = some (w184.heap.size) → False := fun e => by have := hlV _ e; omega
                        refine st_q (v := .slice aV2 i3 cV2) (x_move rfl) ?_
                        refine st_q (v := .agg #[.slice u1.q u1.key.length u1.c, .int .i64 u1.count, .int .i64 u1.numbers, .float .f64 u1.sum, .float .f64 u1.mean, .float .f64 u1.spread, .float .f64 u1.least, .float .f64 u1.greatest]) (x_loadA [.slice u1.q u1.key.length u1.c, .int .i64 u1.count, .int .i64 u1.numbers, .float .f64 u1.sum, .float .f64 u1.mean, .float .f64 u1.spread, .float .f64 u1.least, .float .f64 u1.greatest] T.ag44 rfl (hB355.cells 0 [.slice u1.q u1.key.length u1.c, .int .i64 u1.count, .int .i64 u1.numbers, .float .f64 u1.sum, .float .f64 u1.mean, .float .f64 u1.spread, .float .f64 u1.least, .float .f64 u1.greatest] (cells_at rfl))) ?_
                        refine st_e (e_buildSlice (cs := [.slice u1.q u1.key.length u1.c, .int .i64 u1.count, .int .i64 u1.numbers, .float .f64 u1.sum, .float .f64 u1.mean, .float .f64 u1.spread, .float .f64 u1.least, .float .f64 u1.greatest]) (e := 44) (fun _ => by kernel_rfl) ?_)
                        intro w361 hA362
                        have hx363 := hA362.ext
                        have hs364 := hA362.size
                        have hB365 : Blk w361.heap w353.heap.size [.slice u1.q u1.key.length u1.c, .int .i64 u1.count, .int .i64 u1.numbers, .float .f64 u1.sum, .float .f64 u1.mean, .float .f64 u1.spread, .float .f64 u1.least, .float .f64 u1.greatest] 44 := hA362.new
                        have hB366 := hB355.ext hx363
                        have hF367 := hF357.ext hx363
                        have hF368 := hF358.ext hx363
                        have hE369 : Below w155.heap.size w155 w361 := hx363.e hE359 (Nat.le_refl _)
                        have hz370 := hE369.le
                        have hs371 := hx363.size
                        refine st_e (e_appendX T.sl32 rfl rfl hF367 (hB365.src1 (k := 8) (m := 1) rfl (by omega)) (ones (by rfl)) (by omega) (by decide) (by omega) ?_)
                        intro v372 w373 hO374 hG375 hN376 hW377
                        have hB378 := hB366.grown hG375 (fun e => by first | exact hne e | (have := (hF367.lt e).1; clear e; omega) | (have := (hO.lt e).2; clear e; omega))
                        have hF379 := hF368.gk (hG375) (hF367.rowk) (by decide)
                        have hE380 : Below w155.heap.size w155 w373 := grown_below hG375 hE369 (Nat.le_refl _) (fun b hb => (by have := (hF367.lt hb).1; clear hb; omega))
                        have hz381 := hE380.le
                        have hs382 := hG375.size
                        have hO383 := Own.snoc (enc := enG) (u := u1) hO374
                        obtain ⟨a384, c385, rfl, hm386, hm387⟩ := hO383.src.form
                        refine st_q (v := .slice a384 ((i3 + 1)) c385) (x_assign rfl) ?_
                        refine st_nil ?_
                        refine kn205 _ _ ?_
                        refine kn201 _ _ ?_
                        refine region ?_
                        refine st_q (v := .int .i64 ((i3 : Nat) : Int)) (x_move rfl) ?_
                        refine st_q (v := .int .i64 (((i3 + 1) : Nat) : Int)) (x_addN rfl rfl (by omega)) ?_
                        refine st_q (v := .int .i64 (((i3 + 1) : Nat) : Int)) (x_assign rfl) ?_
                        refine st_nil ?_
                        refine kn188 _ ((i3 + 1), (G ++ [u1]), .slice a384 ((i3 + 1)) c385) _ ⟨rfl, rfl, rfl, rfl, rfl, rfl, rfl, trivial⟩ ⟨hE380, ?_⟩ ?_
                        ·
                          try dsimp only
                          refine ⟨by omega, by rw [List.length_append, hGl]; rfl, hO383, fun j hj => ?_⟩
                          by_cases he : j = i3
                          · have hl : el (G ++ [u1]) i3 = u1 := by have h := el_snoc_last G u1; rwa [hGl] at h
                            rw [he, hl]; exact hu1
                          · rw [el_append_left (by omega)]; exact hrel j (by omega)
                        ·
                          (try dsimp only); omega
                      ·
                        exact absurd h320 (by omega)
                ·
                  refine exit ?_
                  refine ke194 _ _ _ ?_
                  refine ke190 _ _ _ ?_
                  refine kb181 _ _ ?_
                  refine kn170 _ _ ?_
                  refine seqK fun Q388 kn389 kr390 ke391 => ?_
                  refine region ?_
                  refine st_q (v := .slice aV2 i3 cV2) (x_move rfl) ?_
                  refine st_q (v := .slice aV2 i3 cV2) (x_assign rfl) ?_
                  refine st_q (v := .int .i64 ((0 : Nat) : Int)) (x_assign rfl) ?_
                  refine st_nil ?_
                  refine kn389 _ _ ?_
                  refine ret ?_
                  refine leave2 (P := Tryd.prog) (fn := Tryd.f14) (t := 6) (u := 7) (v := .slice aV2 i3 cV2) (v' := .int .i64 ((0 : Nat) : Int)) rfl rfl rfl ?_
                  exact ⟨_, A, G, rfl, Below.e hx185 hEB (Nat.le_refl _), (show Own _ w0.heap.size 44 8 _ G.length _ from by rw [hGl]; exact hO2.weak (by omega)), hAt, (hAW.ext hx185).weak (by omega), by omega, fun j hj => hrel j (by omega)⟩
      ·
        exact absurd h35 (by omega)

set_option maxHeartbeats 4000000 in
theorem refsums14g (pr : ByteArray) (ar : Int) (L : List Row) (va : Value) (ls : List Int) (vb : Value) (w0 : World) (ha : Src w0.heap va L.length 1 (flat enR L)) (hL : RowsP w0.heap L) (hb : Src w0.heap vb ls.length 1 (flat enI ls)) (hG : RightR ar (tp L) ∧ ColsOK ar ls) (hn : L.length ≤ 1466015503701) (hsz : SizeL L) : Calls Tryd.prog 14 #[.agg #[.string pr, .int .i64 ar, va], .int .i64 (-1), vb] w0 fun e w' => ∃ (v : Value) (A : List Row) (G : List Grp), e = .returned (.tuple #[v, .int .i64 0]) ∧ Ext w0 w' ∧ Own w'.heap w0.heap.size 44 8 v G.length (flat enG G) ∧ tp A = setL ((setL (tp L)).map fun t => cutL t ls) ∧ RowsW w'.heap w0.heap.size A ∧ G.length = A.length ∧ ∀ j, j < G.length → (el G j) = (g0 (el A j).1.1 (el A j).1.2 (el A j).2 ((((setL (tp L)).filter (fun t => decide (cutL t ls = (el A j).2))).length : Nat) : Int)) := by
  have hE0 : Below w0.heap.size w0 w0 := Below.refl _ _
  have hz0 := hE0.le
  obtain ⟨a, ca, rfl, hca, hca1⟩ := ha.form
  obtain ⟨b, cb, rfl, hcb, hcb1⟩ := hb.form
  have hcin : ∀ i, i < ls.length → 0 ≤ el ls i ∧ el ls i < ar := fun i hi => by
    have h1 := (hG.2 i hi).1
    unfold badC at h1
    have h2 := of_decide_eq_false h1
    omega
  have hcl : ls.length ≤ 16 := cols_len hG.2 hG.1.2.2
  refine enter Tryd.func14 rfl 103 Tryd.ntmps14 rfl ?_
  refine seqK fun Q1 kn2 kr3 ke4 => ?_
  refine region ?_
  refine st_e (e_box (v := .agg #[.string pr, .int .i64 ar, .slice a L.length ca]) rfl ?_)
  intro w5 hA6
  have hx7 := hA6.ext
  have hs8 := hA6.size
  have hB9 : Blk w5.heap w0.heap.size [.string pr, .int .i64 ar, .slice a L.length ca] 29 := hA6.new
  have hE10 : Below w0.heap.size w0 w5 := hx7.e hE0 (Nat.le_refl _)
  have hz11 := hE10.le
  have hs12 := hx7.size
  refine st_q (v := .slice none 0 0) (x_assign rfl) ?_
  refine st_q (v := .int .i64 ((0 : Nat) : Int)) (x_assign rfl) ?_
  refine st_nil ?_
  refine kn2 _ _ ?_
  refine seqK fun Q13 kn14 kr15 ke16 => ?_
  refine seqK fun Q17 kn18 kr19 ke20 => ?_
  refine region ?_
  refine st_q (v := .agg #[.string pr, .int .i64 ar, .slice a L.length ca]) (x_loadA [.string pr, .int .i64 ar, .slice a L.length ca] T.ag29 rfl (hB9.cells 0 [.string pr, .int .i64 ar, .slice a L.length ca] (cells_at rfl))) ?_
  refine st_c (t_call [.agg #[.string pr, .int .i64 ar, .slice a L.length ca]] T.cf34 rfl rfl) (right34 pr ar L _ _ (ha.below hE10) (RowsP.below hL hE10)) ?_
  rintro _ w21 ⟨rfl, hx22⟩
  refine ⟨_, rfl, ?_⟩
  have hB23 := hB9.ext hx22
  have hE24 : Below w0.heap.size w0 w21 := hx22.e hE10 (Nat.le_refl _)
  have hz25 := hE24.le
  have hs26 := hx22.size
  refine st_q (v := .bool (decide (¬ (RightR ar (tp L))))) (x_notP rfl) ?_
  refine st_if (p := ¬ (RightR ar (tp L))) (x_move rfl) (fun h27 => ?_) (fun h27 => ?_)
  ·
    exact absurd h27 (not_not_intro hG.1)
  ·
    refine st_gq 3 19 rfl rfl (by decide) ?_
    refine st_q (v := .agg #[.string pr, .int .i64 ar, .slice a L.length ca]) (x_loadA [.string pr, .int .i64 ar, .slice a L.length ca] T.ag29 rfl (hB23.cells 0 [.string pr, .int .i64 ar, .slice a L.length ca] (cells_at rfl))) ?_
    refine st_gq 3 19 rfl rfl (by decide) ?_
    refine st_q (v := .slice b ls.length cb) (x_move rfl) ?_
    refine st_gq 3 19 rfl rfl (by decide) ?_
    refine st_c (t_call [.agg #[.string pr, .int .i64 ar, .slice a L.length ca], .slice b ls.length cb] T.cf35 rfl rfl) (columns35 pr ar _ ls _ _ (hb.below hE24)) ?_
    rintro _ w28 ⟨rfl, hx29⟩
    refine ⟨_, rfl, ?_⟩
    have hB30 := hB23.ext hx29
    have hE31 : Below w0.heap.size w0 w28 := hx29.e hE24 (Nat.le_refl _)
    have hz32 := hE31.le
    have hs33 := hx29.size
    refine st_gq 3 19 rfl rfl (by decide) ?_
    refine st_q (v := .bool (decide (¬ (ColsOK ar ls)))) (x_notP rfl) ?_
    refine st_q (v := .bool (decide (¬ (ColsOK ar ls)))) (x_pickF rfl rfl) ?_
    refine st_if (p := ¬ (ColsOK ar ls)) (x_move rfl) (fun h34 => ?_) (fun h34 => ?_)
    ·
      exact absurd h34 (not_not_intro hG.2)
    ·
      refine st_gq 9 25 rfl rfl (by decide) ?_
      refine st_q (v := .int .i64 (-1)) (x_move rfl) ?_
      refine st_gq 9 25 rfl rfl (by decide) ?_
      refine st_q (v := .bool (decide ((-1) ≠ (-1)))) (x_neq rfl rfl) ?_
      refine st_gq 9 25 rfl rfl (by decide) ?_
      refine st_if (p := (-1) ≠ (-1)) (x_move rfl) (fun h35 => ?_) (fun h35 => ?_)
      ·
        exact absurd h35 (not_not_intro rfl)
      ·
        refine st_gn 12 28 rfl rfl (by decide) rfl ?_
        refine st_gn 12 28 rfl rfl (by decide) rfl ?_
        refine st_gn 12 28 rfl rfl (by decide) rfl ?_
        refine st_gn 12 28 rfl rfl (by decide) rfl ?_
        refine st_gn 12 28 rfl rfl (by decide) rfl ?_
        refine st_gq 9 25 rfl rfl (by decide) ?_
        refine st_q (v := .bool false) (x_pickF rfl rfl) ?_
        refine st_q (v := .bool false) (x_pickF rfl rfl) ?_
        refine st_nil ?_
        refine kn18 _ _ ?_
        refine cndF rfl ?_
        refine skip ?_
        refine kn14 _ _ ?_
        refine seqK fun Q36 kn37 kr38 ke39 => ?_
        refine region ?_
        refine st_q (v := .pointer (some ⟨w0.heap.size, 2, none⟩)) (x_field (o := 0) T.fa29_2 rfl) ?_
        refine st_q (v := .slice a L.length ca) (x_load1 T.na27 rfl (hB30.one 2 rfl)) ?_
        have hw : ∀ x ∈ L, x.2.length ≤ 4398046511104 := fun x hx => by have h : ((x.2.length : Nat) : Int) = ar := hG.1.1 _ (show x.2 ∈ tp L from List.mem_map_of_mem hx); have := hG.1.2.2; omega
        refine st_c (t_call [.slice a L.length ca] T.cf22 rfl rfl) (refset22 L _ _ (ha.below hE31) (RowsP.below hL hE31) (by omega) hw) ?_
        rintro _ w40 ⟨vR, R, rfl, hx41, hRt, hO42, hRW⟩
        refine ⟨_, rfl, ?_⟩
        have hB43 := hB30.ext hx41
        have hE44 : Below w0.heap.size w0 w40 := hx41.e hE31 (Nat.le_refl _)
        have hz45 := hE44.le
        have hs46 := hx41.size
        have hRn : R.length ≤ L.length := by have h := congrArg List.length hRt; rw [tp_len] at h; have h2 := setL_len (tp L); rw [tp_len] at h2; omega
        have hRm : ∀ x ∈ R, x.2 ∈ tp L := fun x hx => by have h : x.2 ∈ tp R := List.mem_map_of_mem hx; rw [hRt] at h; exact ((setL_is _).2 _).1 h
        have hRlen : ∀ x ∈ R, (x.2.length : Int) = ar := fun x hx => hG.1.1 _ (hRm x hx)
        have hRsz : SizeL R := fun x hx s hs => by obtain ⟨y, hy, e⟩ := List.mem_map.1 (hRm x hx); exact hsz y hy s (by rw [e]; exact hs)
        have hRG : RightR ar (tp R) ∧ ColsOK ar ls := ⟨⟨fun t ht => by rw [hRt] at ht; exact hG.1.1 _ (((setL_is _).2 _).1 ht), hG.1.2⟩, hG.2⟩
        have hEA := hE44
        have hzA := hEA.le
        obtain ⟨aR, cR, rfl, hcR, hcR1⟩ := hO42.src.form
        have hRs := hO42.src
        have hRP := hRW.rowsP
        have hbA := hb.below hEA
        have hE47 : Below w40.heap.size w40 w40 := Below.refl _ _
        have hz48 := hE47.le
        refine st_q (v := .slice aR R.length cR) (x_assign rfl) ?_
        refine st_nil ?_
        refine kn37 _ _ ?_
        refine seqK fun Q49 kn50 kr51 ke52 => ?_
        refine region ?_
        refine st_q (v := .slice none 0 0) (x_assign rfl) ?_
        refine st_nil ?_
        refine kn50 _ _ ?_
        refine seqK fun Q53 kn54 kr55 ke56 => ?_
        refine seqK fun Q57 kn58 kr59 ke60 => ?_
        refine region ?_
        refine st_q (v := .int .i64 ((0 : Nat) : Int)) (x_assign rfl) ?_
        refine st_nil ?_
        refine kn58 _ _ ?_
        refine blockK fun Q61 kn62 kr63 kx64 kb65 => ?_
        refine loopK (α := Nat × (List Row) × Value) (fun x => [(1, .int .i64 (-1)), (2, .slice b ls.length cb), (8, .slice aR R.length cR), (9, x.2.2), (10, .int .i64 ((x.1 : Nat) : Int))]) (fun x w66 => Below w40.heap.size w40 w66 ∧ x.1 ≤ R.length ∧ tp x.2.1 = (tp (R.take x.1)).map (fun t => cutL t ls) ∧ Own w66.heap w40.heap.size 42 1 x.2.2 x.1 (flat enR x.2.1) ∧ RowsW w66.heap w40.heap.size x.2.1) (fun x => R.length - x.1) (0, [], .slice none 0 0) ⟨rfl, rfl, rfl, rfl, rfl, trivial⟩ ?_ ?_
        ·
          refine ⟨hE47, ?_⟩
          try dsimp only
          exact ⟨Nat.zero_le _, rfl, Own.nil _ _ _ _, RowsW.nil _ _⟩
        ·
          rintro τ67 ⟨i, K, vl⟩ w68 ⟨hx69, ⟨hi, hKt, hO, hW⟩⟩
          try dsimp only at hi hKt hO hW
          have hz70 := hx69.le
          intro Q71 kn72 kr73 ke74
          obtain ⟨aV, cV, rfl, hcV, hcV1⟩ := hO.src.form
          refine seqK fun Q75 kn76 kr77 ke78 => ?_
          refine seqK fun Q79 kn80 kr81 ke82 => ?_
          refine region ?_
          refine st_q (v := .int .i64 ((i : Nat) : Int)) (x_move rfl) ?_
          refine st_q (v := .slice aR R.length cR) (x_move rfl) ?_
          refine st_q (v := .int .i64 ((R.length : Nat) : Int)) (x_lenSl rfl Tryd.underlying27 rfl) ?_
          refine st_q (v := .bool (decide (i < R.length))) (x_lssN rfl rfl) ?_
          refine st_nil ?_
          refine kn80 _ _ ?_
          refine cnd (p := i < R.length) rfl (fun h83 => ?_) (fun h83 => ?_)
          ·
            refine skip ?_
            refine kn76 _ _ ?_
            refine seqK fun Q84 kn85 kr86 ke87 => ?_
            refine blockK fun Q88 kn89 kr90 kx91 kb92 => ?_
            refine region ?_
            refine st_q (v := .slice aV i cV) (x_move rfl) ?_
            refine st_q (v := .slice aR R.length cR) (x_move rfl) ?_
            refine st_q (v := .int .i64 ((i : Nat) : Int)) (x_move rfl) ?_
            obtain ⟨b93, o94, ha95, hc96⟩ := hRs.at (by omega)
            refine st_q (v := .pointer (some ⟨b93, o94 + i * 1, none⟩)) (x_index' T.sl27 rfl ha95 rfl (by omega)) ?_
            have hs97 := hRP _ (el_mem' (xs := R) (i := i) (by omega))
            have htl := hRlen _ (el_mem' (xs := R) (i := i) (by omega))
            refine st_q (v := .slice ((el R i).1.1) ((el R i).2.length) ((el R i).1.2)) (x_load1 T.na42 rfl ((hc96.below hx69).elem enR_len (i := i) (by omega))) ?_
            refine st_q (v := .slice b ls.length cb) (x_move rfl) ?_
            refine st_c (t_call [.slice ((el R i).1.1) ((el R i).2.length) ((el R i).1.2), .slice b ls.length cb] T.cf36 rfl rfl) (cut36 (el R i).2 ls _ _ _ (Src.below (hRP _ (el_mem' (by omega))) hx69) (hbA.below hx69) (fun j hj => by have := hcin j hj; omega) (by omega)) ?_
            rintro _ w98 ⟨v101, rfl, hx99, hO100⟩
            refine ⟨_, rfl, ?_⟩
            have hF102 := hO.ext hx99
            have hF103 := hW.ext hx99
            have hE104 : Below w40.heap.size w40 w98 := hx99.e hx69 (Nat.le_refl _)
            have hz105 := hE104.le
            have hs106 := hx99.size
            have hcu := hO100.weak (lo' := w40.heap.size) (by omega)
            rw [← cutL_len (el R i).2 ls] at hcu
            obtain ⟨aC, cC, rfl, hcC, hcC1⟩ := hcu.src.form
            have hW107 : RowsW w98.heap w40.heap.size (K ++ [((aC, cC), cutL (el R i).2 ls)]) := hF103.snoc hcu
            refine st_e (e_buildSlice (cs := [.slice aC ((cutL (el R i).2 ls).length) cC]) (e := 42) (fun _ => by kernel_rfl) ?_)
            intro w108 hA109
            have hx110 := hA109.ext
            have hs111 := hA109.size
            have hB112 : Blk w108.heap w98.heap.size [.slice aC ((cutL (el R i).2 ls).length) cC] 42 := hA109.new
            have hF113 := hF102.ext hx110
            have hF114 := hW107.ext hx110
            have hE115 : Below w40.heap.size w40 w108 := hx110.e hE104 (Nat.le_refl _)
            have hz116 := hE115.le
            have hs117 := hx110.size
            refine st_e (e_appendX T.sl27 rfl rfl hF113 (hB112.src1 (k := 1) (m := 1) rfl (by omega)) (ones (by rfl)) (by omega) (by decide) (by omega) ?_)
            intro v118 w119 hO120 hG121 hN122 hW123
            have hF124 := hF114.gk (hG121) (hF113.rowk) (by decide)
            have hE125 : Below w40.heap.size w40 w119 := grown_below hG121 hE115 (Nat.le_refl _) (fun b hb => (by have := (hF113.lt hb).1; clear hb; omega))
            have hz126 := hE125.le
            have hs127 := hG121.size
            have hO128 := Own.snoc (enc := enR) (u := ((aC, cC), cutL (el R i).2 ls)) hO120
            obtain ⟨a129, c130, rfl, hm131, hm132⟩ := hO128.src.form
            refine st_q (v := .slice a129 ((i + 1)) c130) (x_assign rfl) ?_
            refine st_nil ?_
            refine kn89 _ _ ?_
            refine kn85 _ _ ?_
            refine region ?_
            refine st_q (v := .int .i64 ((i : Nat) : Int)) (x_move rfl) ?_
            refine st_q (v := .int .i64 (((i + 1) : Nat) : Int)) (x_addN rfl rfl (by omega)) ?_
            refine st_q (v := .int .i64 (((i + 1) : Nat) : Int)) (x_assign rfl) ?_
            refine st_nil ?_
            refine kn72 _ ((i + 1), (K ++ [((aC, cC), cutL (el R i).2 ls)]), .slice a129 ((i + 1)) c130) _ ⟨rfl, rfl, rfl, rfl, rfl, trivial⟩ ⟨hE125, ?_⟩ ?_
            ·
              try dsimp only
              exact ⟨by omega, by rw [tp_take_succ (by omega), List.map_append, ← hKt]; simp [tp], hO128, hF124⟩
            ·
              (try dsimp only); omega
          ·
            refine exit ?_
            refine ke78 _ _ _ ?_
            refine ke74 _ _ _ ?_
            refine kb65 _ _ ?_
            refine kn54 _ _ ?_
            refine seqK fun Q133 kn134 kr135 ke136 => ?_
            refine region ?_
            refine st_q (v := .slice aV i cV) (x_move rfl) ?_
            have ei : i = R.length := by omega
            have hKl : K.length = i := by have h := congrArg List.length hKt; rw [tp_len, List.length_map, tp_len, List.length_take] at h; omega
            rw [ei, List.take_length] at hKt
            have hK1 : ∀ x ∈ K, x.2.length ≤ 4398046511104 := fun x hx => by have h : x.2 ∈ tp K := List.mem_map_of_mem hx; rw [hKt] at h; obtain ⟨t, _, e⟩ := List.mem_map.1 h; rw [← e, cutL_len]; omega
            have hKs : Src w68.heap (.slice aV i cV) K.length 1 (flat enR K) := by rw [hKl]; exact hO.src
            have hKP := hW.rowsP
            refine st_c (t_call [.slice aV i cV] T.cf22 rfl rfl) (refset22 K _ _ hKs hKP (by omega) hK1) ?_
            rintro _ w137 ⟨vA, A, rfl, hx138, hAt, hO139, hAW⟩
            refine ⟨_, rfl, ?_⟩
            have hF140 := hO.ext hx138
            have hF141 := hW.ext hx138
            have hE142 : Below w40.heap.size w40 w137 := hx138.e hx69 (Nat.le_refl _)
            have hz143 := hE142.le
            have hs144 := hx138.size
            rw [hKt, hRt] at hAt
            have hEAB := hE142
            have hEB := Below.e hEAB hEA (Nat.le_refl _)
            have hzAB := hEAB.le
            have hzB := hEB.le
            obtain ⟨aA, cA, rfl, hcA, hcA1⟩ := hO139.src.form
            have hAs := hO139.src
            have hAP := hAW.rowsP
            have hKsB := hKs.ext hx138
            have hKPB := RowsP.ext' hKP hx138
            have hRsB := hRs.below hEAB
            have hRPB := RowsP.below hRP hEAB
            have hbB := hbA.below hEAB
            have hAn : A.length ≤ K.length := by have h := congrArg List.length hAt; rw [tp_len] at h; have h2 := setL_len ((setL (tp L)).map fun t => cutL t ls); rw [List.length_map, ← hRt, tp_len] at h2; rw [← hRt] at h; omega
            have hE145 : Below w137.heap.size w137 w137 := Below.refl _ _
            have hz146 := hE145.le
            refine st_q (v := .slice aA A.length cA) (x_assign rfl) ?_
            refine st_nil ?_
            refine kn134 _ _ ?_
            refine seqK fun Q147 kn148 kr149 ke150 => ?_
            refine region ?_
            refine st_q (v := .slice none 0 0) (x_assign rfl) ?_
            refine st_nil ?_
            refine kn148 _ _ ?_
            refine seqK fun Q151 kn152 kr153 ke154 => ?_
            refine seqK fun Q155 kn156 kr157 ke158 => ?_
            refine region ?_
            refine st_q (v := .int .i64 ((0 : Nat) : Int)) (x_assign rfl) ?_
            refine st_nil ?_
            refine kn156 _ _ ?_
            refine blockK fun Q159 kn160 kr161 kx162 kb163 => ?_
            refine loopK (α := Nat × (List Grp) × Value) (fun x => [(1, .int .i64 (-1)), (2, .slice b ls.length cb), (8, .slice aR R.length cR), (9, .slice aV i cV), (11, .slice aA A.length cA), (12, x.2.2), (13, .int .i64 ((x.1 : Nat) : Int))]) (fun x w164 => Below w137.heap.size w137 w164 ∧ x.1 ≤ A.length ∧ x.2.1.length = x.1 ∧ Own w164.heap w137.heap.size 44 8 x.2.2 x.1 (flat enG x.2.1) ∧ ∀ j, j < x.1 → (el x.2.1 j) = (g0 (el A j).1.1 (el A j).1.2 (el A j).2 ((((setL (tp L)).filter (fun t => decide (cutL t ls = (el A j).2))).length : Nat) : Int))) (fun x => A.length - x.1) (0, [], .slice none 0 0) ⟨rfl, rfl, rfl, rfl, rfl, rfl, rfl, trivial⟩ ?_ ?_
            ·
              refine ⟨hE145, ?_⟩
              try dsimp only
              exact ⟨Nat.zero_le _, rfl, Own.nil _ _ _ _, fun j h => by omega⟩
            ·
              rintro τ165 ⟨i3, G, vl⟩ w166 ⟨hx167, ⟨hi3, hGl, hO2, hrel⟩⟩
              try dsimp only at hi3 hGl hO2 hrel
              have hz168 := hx167.le
              intro Q169 kn170 kr171 ke172
              obtain ⟨aV2, cV2, rfl, hcV2, hcV3⟩ := hO2.src.form
              have hlV : ∀ z, Value.ownBlock (.slice aV2 i3 cV2) = some z → z < w166.heap.size := fun z e => (hO2.lt e).2
              refine seqK fun Q173 kn174 kr175 ke176 => ?_
              refine seqK fun Q177 kn178 kr179 ke180 => ?_
              refine region ?_
              refine st_q (v := .int .i64 ((i3 : Nat) : Int)) (x_move rfl) ?_
              refine st_q (v := .slice aA A.length cA) (x_move rfl) ?_
              refine st_q (v := .int .i64 ((A.length : Nat) : Int)) (x_lenSl rfl Tryd.underlying27 rfl) ?_
              refine st_q (v := .bool (decide (i3 < A.length))) (x_lssN rfl rfl) ?_
              refine st_nil ?_
              refine kn178 _ _ ?_
              refine cnd (p := i3 < A.length) rfl (fun h181 => ?_) (fun h181 => ?_)
              ·
                refine skip ?_
                refine kn174 _ _ ?_
                refine seqK fun Q182 kn183 kr184 ke185 => ?_
                refine blockK fun Q186 kn187 kr188 kx189 kb190 => ?_
                refine seqK fun Q191 kn192 kr193 ke194 => ?_
                refine region ?_
                refine st_q (v := .slice aA A.length cA) (x_move rfl) ?_
                refine st_q (v := .int .i64 ((i3 : Nat) : Int)) (x_move rfl) ?_
                obtain ⟨b195, o196, ha197, hc198⟩ := hAs.at (by omega)
                refine st_q (v := .pointer (some ⟨b195, o196 + i3 * 1, none⟩)) (x_index' T.sl27 rfl ha197 rfl (by omega)) ?_
                refine st_q (v := .slice ((el A i3).1.1) ((el A i3).2.length) ((el A i3).1.2)) (x_load1 T.na42 rfl ((hc198.below hx167).elem enR_len (i := i3) (by omega))) ?_
                refine st_q (v := .agg #[.slice ((el A i3).1.1) ((el A i3).2.length) ((el A i3).1.2), .int .i64 ((0 : Nat) : Int), .int .i64 ((0 : Nat) : Int), .float .f64 0, .float .f64 0, .float .f64 0, .float .f64 0, .float .f64 0]) (x_build (fun _ => by kernel_rfl)) ?_
                refine st_e (e_alloc T.zv44 ?_)
                intro w199 hA200
                have hx201 := hA200.ext
                have hs202 := hA200.size
                have hB203 : Blk w199.heap w166.heap.size [.slice none 0 0, .int .i64 ((0 : Nat) : Int), .int .i64 ((0 : Nat) : Int), .float .f64 0, .float .f64 0, .float .f64 0, .float .f64 0, .float .f64 0] 44 := hA200.new
                have hF204 := hO2.ext hx201
                have hE205 : Below w137.heap.size w137 w199 := hx201.e hx167 (Nat.le_refl _)
                have hz206 := hE205.le
                have hs207 := hx201.size
                refine st_s (e_st (v := .agg #[.slice ((el A i3).1.1) ((el A i3).2.length) ((el A i3).1.2), .int .i64 ((0 : Nat) : Int), .int .i64 ((0 : Nat) : Int), .float .f64 0, .float .f64 0, .float .f64 0, .float .f64 0, .float .f64 0]) T.sz44 rfl rfl hB203 (by simp [Value.cells]) (by rfl) ?_)
                intro w208 hP209
                have hB210 : Blk w208.heap w166.heap.size [.slice ((el A i3).1.1) ((el A i3).2.length) ((el A i3).1.2), .int .i64 ((0 : Nat) : Int), .int .i64 ((0 : Nat) : Int), .float .f64 0, .float .f64 0, .float .f64 0, .float .f64 0, .float .f64 0] 44 := hP209.new
                have hs211 := hP209.size
                have hF212 := hF204.pt hP209 (by intro e; have := hlV _ e; omega)
                have hE213 : Below w137.heap.size w137 w208 := hP209.below hE205 (by omega)
                have hz214 := hE213.le
                refine st_nil ?_
                refine kn192 _ _ ?_
                refine seqK fun Q215 kn216 kr217 ke218 => ?_
                refine seqK fun Q219 kn220 kr221 ke222 => ?_
                refine region ?_
                refine st_q (v := .int .i64 ((0 : Nat) : Int)) (x_assign rfl) ?_
                refine st_nil ?_
                refine kn220 _ _ ?_
                refine blockK fun Q223 kn224 kr225 kx226 kb227 => ?_
                refine loopK (α := Nat) (fun x => [(1, .int .i64 (-1)), (2, .slice b ls.length cb), (8, .slice aR R.length cR), (9, .slice aV i cV), (11, .slice aA A.length cA), (12, .slice aV2 i3 cV2), (13, .int .i64 ((i3 : Nat) : Int)), (14, .pointer (some ⟨w166.heap.size, 0, none⟩)), (15, .int .i64 ((x : Nat) : Int))]) (fun x w228 => Below w137.heap.size w137 w228 ∧ (x ≤ K.length ∧ Blk w228.heap w166.heap.size [.slice ((el A i3).1.1) ((el A i3).2.length) ((el A i3).1.2), .int .i64 ((((tp (K.take x)).filter (fun t => decide (t = (el A i3).2))).length : Nat) : Int), .int .i64 ((0 : Nat) : Int), .float .f64 0, .float .f64 0, .float .f64 0, .float .f64 0, .float .f64 0] 44) ∧ Own w228.heap w137.heap.size 44 8 (.slice aV2 i3 cV2) i3 (flat enG G)) (fun x => K.length - x) (0) ⟨rfl, rfl, rfl, rfl, rfl, rfl, rfl, rfl, rfl, trivial⟩ ?_ ?_
                ·
                  refine ⟨hE213, ?_⟩
                  try dsimp only
                  refine ⟨?_, hF212⟩
                  exact ⟨Nat.zero_le _, hB210⟩
                ·
                  rintro τ229 k w230 ⟨hx232, ⟨⟨hk, hB14⟩, hC231⟩⟩
                  try dsimp only at hk hB14 hC231
                  have hz233 := hx232.le
                  intro Q234 kn235 kr236 ke237
                  have hcnl : ((tp (K.take k)).filter (fun t => decide (t = (el A i3).2))).length ≤ k := Nat.le_trans (List.length_filter_le _ _) (by rw [tp_len, List.length_take]; omega)
                  refine seqK fun Q238 kn239 kr240 ke241 => ?_
                  refine seqK fun Q242 kn243 kr244 ke245 => ?_
                  refine region ?_
                  refine st_q (v := .int .i64 ((k : Nat) : Int)) (x_move rfl) ?_
                  refine st_q (v := .slice aV i cV) (x_move rfl) ?_
                  refine st_q (v := .int .i64 ((i : Nat) : Int)) (x_lenSl rfl Tryd.underlying27 rfl) ?_
                  refine st_q (v := .bool (decide (k < i))) (x_lssN rfl rfl) ?_
                  refine st_nil ?_
                  refine kn243 _ _ ?_
                  refine cnd (p := k < i) rfl (fun h246 => ?_) (fun h246 => ?_)
                  ·
                    refine skip ?_
                    refine kn239 _ _ ?_
                    refine seqK fun Q247 kn248 kr249 ke250 => ?_
                    refine blockK fun Q251 kn252 kr253 kx254 kb255 => ?_
                    refine seqK fun Q256 kn257 kr258 ke259 => ?_
                    refine regionD1 [3, 7] [0, 1, 2, 3, 4, 5, 6, 7] (.one 0 (.one 1 (.one 2 (.one 3 (.one 4 (.one 5 (.one 6 (.one 7 (.one 8 .done))))))))) (by kernel_rfl) (by kernel_rfl) ?_
                    intro w260 hx261 hs262
                    have hB263 := hB14.ext hx261
                    have hF264 := hC231.ext hx261
                    have hE265 : Below w137.heap.size w137 w260 := hx261.e hx232 (Nat.le_refl _)
                    have hz266 := hE265.le
                    have hs267 := hx261.size
                    have hS268 : Ext w260 w260 := Below.refl _ _
                    refine d_q (v := .slice aV i cV) rfl rfl (fun _ => x_move rfl) ?_
                    refine d_q (v := .int .i64 ((k : Nat) : Int)) rfl rfl (fun _ => x_move rfl) ?_
                    obtain ⟨b269, o270, ha271, hc272⟩ := hKsB.at (by omega)
                    refine d_q (v := .pointer (some ⟨b269, o270 + k * 1, none⟩)) rfl rfl (fun _ => x_index' T.sl27 rfl ha271 rfl (by omega)) ?_
                    refine d_l (v := .slice ((el K k).1.1) ((el K k).2.length) ((el K k).1.2)) rfl rfl rfl (fun v274 hw273 => x_load1 T.na42 rfl (((hc272.below hE265).elem enR_len (i := k) (by omega)).ext hw273)) ?_
                    refine d_q (v := .slice aA A.length cA) rfl rfl (fun _ => x_move rfl) ?_
                    refine d_q (v := .int .i64 ((i3 : Nat) : Int)) rfl rfl (fun _ => x_move rfl) ?_
                    refine d_q (v := .pointer (some ⟨b195, o196 + i3 * 1, none⟩)) rfl rfl (fun _ => x_index' T.sl27 rfl ha197 rfl (by omega)) ?_
                    refine d_l (v := .slice ((el A i3).1.1) ((el A i3).2.length) ((el A i3).1.2)) rfl rfl rfl (fun v276 hw275 => x_load1 T.na42 rfl (((hc198.below hE265).elem enR_len (i := i3) (by omega)).ext hw275)) ?_
                    refine d_e (by decide) (d_c' rfl rfl (t_call [.slice ((el K k).1.1) ((el K k).2.length) ((el K k).1.2), .slice ((el A i3).1.1) ((el A i3).2.length) ((el A i3).1.2)] T.cf21 rfl rfl) (same21 (el K k).2 (el A i3).2 _ _ _ (Src.below (hKPB _ (el_mem' (by omega))) hE265) (Src.below (hAP _ (el_mem' (by omega))) hE265)) ?_)
                    rintro _ w277 ⟨rfl, hx278⟩
                    refine ⟨_, rfl, ?_⟩
                    have hB279 := hB263.ext hx278
                    have hF280 := hF264.ext hx278
                    have hE281 : Below w137.heap.size w137 w277 := hx278.e hE265 (Nat.le_refl _)
                    have hz282 := hE281.le
                    have hs283 := hx278.size
                    have hS284 := hS268.trans (hx278.mono hS268.size)
                    refine ⟨fun _ => hS284, ?_⟩
                    refine d_done ?_
                    refine kn257 _ _ ?_
                    refine cnd (p := (el K k).2 = (el A i3).2) rfl (fun h285 => ?_) (fun h285 => ?_)
                    ·
                      refine region ?_
                      refine st_q (v := .pointer (some ⟨w166.heap.size, 1, none⟩)) (x_field (o := 0) T.fa44_1 rfl) ?_
                      refine st_q (v := .int .i64 ((((tp (K.take k)).filter (fun t => decide (t = (el A i3).2))).length : Nat) : Int)) (x_load1 T.na3 rfl (hB279.one 1 rfl)) ?_
                      refine st_q (v := .int .i64 (((((tp (K.take k)).filter (fun t => decide (t = (el A i3).2))).length + 1) : Nat) : Int)) (x_addN rfl rfl (by omega)) ?_
                      refine st_q (v := .pointer (some ⟨w166.heap.size, 1, none⟩)) (x_field (o := 0) T.fa44_1 rfl) ?_
                      refine st_s (e_st (v := .int .i64 (((((tp (K.take k)).filter (fun t => decide (t = (el A i3).2))).length + 1) : Nat) : Int)) T.sz3 rfl rfl hB279 (by simp [Value.cells]) (by rfl) ?_)
                      intro w286 hP287
                      have hB288 : Blk w286.heap w166.heap.size [.slice ((el A i3).1.1) ((el A i3).2.length) ((el A i3).1.2), .int .i64 (((((tp (K.take k)).filter (fun t => decide (t = (el A i3).2))).length + 1) : Nat) : Int), .int .i64 ((0 : Nat) : Int), .float .f64 0, .float .f64 0, .float .f64 0, .float .f64 0, .float .f64 0] 44 := hP287.new
                      have hs289 := hP287.size
                      have hF290 := hF280.pt hP287 (by intro e; have := hlV _ e; omega)
                      have hE291 : Below w137.heap.size w137 w286 := hP287.below hE281 (by omega)
                      have hz292 := hE291.le
                      refine st_nil ?_
                      refine kn252 _ _ ?_
                      refine kn248 _ _ ?_
                      refine region ?_
                      refine st_q (v := .int .i64 ((k : Nat) : Int)) (x_move rfl) ?_
                      refine st_q (v := .int .i64 (((k + 1) : Nat) : Int)) (x_addN rfl rfl (by omega)) ?_
                      refine st_q (v := .int .i64 (((k + 1) : Nat) : Int)) (x_assign rfl) ?_
                      refine st_nil ?_
                      refine kn235 _ ((k + 1)) _ ⟨rfl, rfl, rfl, rfl, rfl, rfl, rfl, rfl, rfl, trivial⟩ ⟨hE291, ?_⟩ ?_
                      ·
                        try dsimp only
                        refine ⟨?_, hF290⟩
                        refine ⟨by omega, ?_⟩
                        have e : ((tp (K.take (k + 1))).filter (fun t => decide (t = (el A i3).2))).length = ((tp (K.take k)).filter (fun t => decide (t = (el A i3).2))).length + 1 := by rw [tp_take_succ (by omega), List.filter_append, List.length_append]; simp [(by assumption : (el K k).2 = (el A i3).2)]
                        rw [e]; exact hB288
                      ·
                        (try dsimp only); omega
                    ·
                      refine skip ?_
                      refine kn252 _ _ ?_
                      refine kn248 _ _ ?_
                      refine region ?_
                      refine st_q (v := .int .i64 ((k : Nat) : Int)) (x_move rfl) ?_
                      refine st_q (v := .int .i64 (((k + 1) : Nat) : Int)) (x_addN rfl rfl (by omega)) ?_
                      refine st_q (v := .int .i64 (((k + 1) : Nat) : Int)) (x_assign rfl) ?_
                      refine st_nil ?_
                      refine kn235 _ ((k + 1)) _ ⟨rfl, rfl, rfl, rfl, rfl, rfl, rfl, rfl, rfl, trivial⟩ ⟨hE281, ?_⟩ ?_
                      ·
                        try dsimp only
                        refine ⟨?_, hF280⟩
                        refine ⟨by omega, ?_⟩
                        have e : ((tp (K.take (k + 1))).filter (fun t => decide (t = (el A i3).2))).length = ((tp (K.take k)).filter (fun t => decide (t = (el A i3).2))).length := by rw [tp_take_succ (by omega), List.filter_append, List.length_append]; simp [(by assumption : ¬ (el K k).2 = (el A i3).2)]
                        rw [e]; exact hB279
                      ·
                        (try dsimp only); omega
                  ·
                    refine exit ?_
                    refine ke241 _ _ _ ?_
                    refine ke237 _ _ _ ?_
                    refine kb227 _ _ ?_
                    refine kn216 _ _ ?_
                    refine seqK fun Q293 kn294 kr295 ke296 => ?_
                    refine seqK fun Q297 kn298 kr299 ke300 => ?_
                    refine region ?_
                    have ecn : ((tp (K.take k)).filter (fun t => decide (t = (el A i3).2))).length = ((setL (tp L)).filter (fun t => decide (cutL t ls = (el A i3).2))).length := by rw [show k = K.length by omega, List.take_length, hKt, hRt, filter_map', List.length_map]
                    have hB301 : Blk w230.heap w166.heap.size [.slice ((el A i3).1.1) ((el A i3).2.length) ((el A i3).1.2), .int .i64 ((((setL (tp L)).filter (fun t => decide (cutL t ls = (el A i3).2))).length : Nat) : Int), .int .i64 ((0 : Nat) : Int), .float .f64 0, .float .f64 0, .float .f64 0, .float .f64 0, .float .f64 0] 44 := by rw [← ecn]; exact hB14
                    refine st_q (v := .int .i64 (-1)) (x_move rfl) ?_
                    refine st_q (v := .bool (decide (0 ≤ (-1)))) (x_geq rfl rfl) ?_
                    refine st_nil ?_
                    refine kn298 _ _ ?_
                    refine cnd (p := 0 ≤ (-1)) rfl (fun h302 => ?_) (fun h302 => ?_)
                    ·
                      exact absurd h302 (by decide)
                    ·
                      refine skip ?_
                      refine kn294 _ _ ?_
                      refine region ?_
                      have hne : Value.ownBlock (.slice aV2 i3 cV2) = some (w166.heap.size) → False := fun e => by have := hlV _ e; omega
                      refine st_q (v := .slice aV2 i3 cV2) (x_move rfl) ?_
                      refine st_q (v := .agg #[.slice ((el A i3).1.1) ((el A i3).2.length) ((el A i3).1.2), .int .i64 ((((setL (tp L)).filter (fun t => decide (cutL t ls = (el A i3).2))).length : Nat) : Int), .int .i64 ((0 : Nat) : Int), .float .f64 0, .float .f64 0, .float .f64 0, .float .f64 0, .float .f64 0]) (x_loadA [.slice ((el A i3).1.1) ((el A i3).2.length) ((el A i3).1.2), .int .i64 ((((setL (tp L)).filter (fun t => decide (cutL t ls = (el A i3).2))).length : Nat) : Int), .int .i64 ((0 : Nat) : Int), .float .f64 0, .float .f64 0, .float .f64 0, .float .f64 0, .float .f64 0] T.ag44 rfl (hB301.cells 0 [.slice ((el A i3).1.1) ((el A i3).2.length) ((el A i3).1.2), .int .i64 ((((setL (tp L)).filter (fun t => decide (cutL t ls = (el A i3).2))).length : Nat) : Int), .int .i64 ((0 : Nat) : Int), .float .f64 0, .float .f64 0, .float .f64 0, .float .f64 0, .float .f64 0] (cells_at rfl))) ?_
                      refine st_e (e_buildSlice (cs := [.slice ((el A i3).1.1) ((el A i3).2.length) ((el A i3).1.2), .int .i64 ((((setL (tp L)).filter (fun t => decide (cutL t ls = (el A i3).2))).length : Nat) : Int), .int .i64 ((0 : Nat) : Int), .float .f64 0, .float .f64 0, .float .f64 0, .float .f64 0, .float .f64 0]) (e := 44) (fun _ => by kernel_rfl) ?_)
                      intro w303 hA304
                      have hx305 := hA304.ext
                      have hs306 := hA304.size
                      have hB307 : Blk w303.heap w230.heap.size [.slice ((el A i3).1.1) ((el A i3).2.length) ((el A i3).1.2), .int .i64 ((((setL (tp L)).filter (fun t => decide (cutL t ls = (el A i3).2))).length : Nat) : Int), .int .i64 ((0 : Nat) : Int), .float .f64 0, .float .f64 0, .float .f64 0, .float .f64 0, .float .f64 0] 44 := hA304.new
                      have hB308 := hB301.ext hx305
                      have hF309 := hC231.ext hx305
                      have hE310 : Below w137.heap.size w137 w303 := hx305.e hx232 (Nat.le_refl _)
                      have hz311 := hE310.le
                      have hs312 := hx305.size
                      refine st_e (e_appendX T.sl32 rfl rfl hF309 (hB307.src1 (k := 8) (m := 1) rfl (by omega)) (ones (by rfl)) (by omega) (by decide) (by omega) ?_)
                      intro v313 w314 hO315 hG316 hN317 hW318
                      have hB319 := hB308.grown hG316 (fun e => by first | exact hne e | (have := (hF309.lt e).1; clear e; omega) | (have := (hO.lt e).2; clear e; omega))
                      have hE320 : Below w137.heap.size w137 w314 := grown_below hG316 hE310 (Nat.le_refl _) (fun b hb => (by have := (hF309.lt hb).1; clear hb; omega))
                      have hz321 := hE320.le
                      have hs322 := hG316.size
                      have hO323 := Own.snoc (enc := enG) (u := (⟨(el A i3).1.1, (el A i3).1.2, (el A i3).2, ((((setL (tp L)).filter (fun t => decide (cutL t ls = (el A i3).2))).length : Nat) : Int), 0, 0, 0, 0, 0, 0⟩ : Grp)) hO315
                      obtain ⟨a324, c325, rfl, hm326, hm327⟩ := hO323.src.form
                      refine st_q (v := .slice a324 ((i3 + 1)) c325) (x_assign rfl) ?_
                      refine st_nil ?_
                      refine kn187 _ _ ?_
                      refine kn183 _ _ ?_
                      refine region ?_
                      refine st_q (v := .int .i64 ((i3 : Nat) : Int)) (x_move rfl) ?_
                      refine st_q (v := .int .i64 (((i3 + 1) : Nat) : Int)) (x_addN rfl rfl (by omega)) ?_
                      refine st_q (v := .int .i64 (((i3 + 1) : Nat) : Int)) (x_assign rfl) ?_
                      refine st_nil ?_
                      refine kn170 _ ((i3 + 1), (G ++ [(⟨(el A i3).1.1, (el A i3).1.2, (el A i3).2, ((((setL (tp L)).filter (fun t => decide (cutL t ls = (el A i3).2))).length : Nat) : Int), 0, 0, 0, 0, 0, 0⟩ : Grp)]), .slice a324 ((i3 + 1)) c325) _ ⟨rfl, rfl, rfl, rfl, rfl, rfl, rfl, trivial⟩ ⟨hE320, ?_⟩ ?_
                      ·
                        try dsimp only
                        refine ⟨by omega, by rw [List.length_append, hGl]; rfl, hO323, fun j hj => ?_⟩
                        by_cases he : j = i3
                        · have hl : el (G ++ [(⟨(el A i3).1.1, (el A i3).1.2, (el A i3).2, ((((setL (tp L)).filter (fun t => decide (cutL t ls = (el A i3).2))).length : Nat) : Int), 0, 0, 0, 0, 0, 0⟩ : Grp)]) i3 = (⟨(el A i3).1.1, (el A i3).1.2, (el A i3).2, ((((setL (tp L)).filter (fun t => decide (cutL t ls = (el A i3).2))).length : Nat) : Int), 0, 0, 0, 0, 0, 0⟩ : Grp) := by have h := el_snoc_last G ((⟨(el A i3).1.1, (el A i3).1.2, (el A i3).2, ((((setL (tp L)).filter (fun t => decide (cutL t ls = (el A i3).2))).length : Nat) : Int), 0, 0, 0, 0, 0, 0⟩ : Grp)); rwa [hGl] at h
                          rw [he, hl]; rfl
                        · rw [el_append_left (by omega)]; exact hrel j (by omega)
                      ·
                        (try dsimp only); omega
              ·
                refine exit ?_
                refine ke176 _ _ _ ?_
                refine ke172 _ _ _ ?_
                refine kb163 _ _ ?_
                refine kn152 _ _ ?_
                refine seqK fun Q328 kn329 kr330 ke331 => ?_
                refine region ?_
                refine st_q (v := .slice aV2 i3 cV2) (x_move rfl) ?_
                refine st_q (v := .slice aV2 i3 cV2) (x_assign rfl) ?_
                refine st_q (v := .int .i64 ((0 : Nat) : Int)) (x_assign rfl) ?_
                refine st_nil ?_
                refine kn329 _ _ ?_
                refine ret ?_
                refine leave2 (P := Tryd.prog) (fn := Tryd.f14) (t := 6) (u := 7) (v := .slice aV2 i3 cV2) (v' := .int .i64 ((0 : Nat) : Int)) rfl rfl rfl ?_
                exact ⟨_, A, G, rfl, Below.e hx167 hEB (Nat.le_refl _), (show Own _ w0.heap.size 44 8 _ G.length _ from by rw [hGl]; exact hO2.weak (by omega)), hAt, (hAW.ext hx167).weak (by omega), by omega, fun j hj => hrel j (by omega)⟩

end Go.Proofs.YtegpcbckiehleaaDoor
