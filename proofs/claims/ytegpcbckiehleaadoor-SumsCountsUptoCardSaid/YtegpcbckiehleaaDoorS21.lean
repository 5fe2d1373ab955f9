import Derived.Test.YtegpcbckiehleaaDoorS14
import Derived.Test.YtegpcbckiehleaaDoorSCnt
namespace Go.Proofs.YtegpcbckiehleaaDoor
open Go.RowKit Go.Eng Go.OrdPure Go.Flt
theorem T.cf34 : CF Tryd.prog 34 := fun _ _ => by kernel_rfl
theorem T.cf35 : CF Tryd.prog 35 := fun _ _ => by kernel_rfl
theorem T.cf22 : CF Tryd.prog 22 := fun _ _ => by kernel_rfl
theorem T.zv44 : ZV Tryd.prog 44 (.agg #[.slice none 0 0, .int .i64 ((0 : Nat) : Int), .int .i64 ((0 : Nat) : Int), .float .f64 0, .float .f64 0, .float .f64 0, .float .f64 0, .float .f64 0]) := fun _ => by kernel_rfl
theorem T.ag44 : AG Tryd.prog 44 8 := fun _ => ⟨by kernel_rfl, by kernel_rfl⟩
theorem T.sz44 : SZ Tryd.prog 44 8 := fun _ => by kernel_rfl
theorem T.cf49 : CF Tryd.prog 49 := fun _ _ => by kernel_rfl
theorem T.cf36 : CF Tryd.prog 36 := fun _ _ => by kernel_rfl
theorem T.cf28 : CF Tryd.prog 28 := fun _ _ => by kernel_rfl
theorem T.cf38 : CF Tryd.prog 38 := fun _ _ => by kernel_rfl
theorem T.cf37 : CF Tryd.prog 37 := fun _ _ => by kernel_rfl
theorem T.cf17 : CF Tryd.prog 17 := fun _ _ => by kernel_rfl

theorem like28t (x y : Nat) (w0 : World) (h : likeB x y = true) : Calls Tryd.prog 28 #[.float .f64 x, .float .f64 y] w0 fun e w' => e = .returned (.bool true) ∧ w0 = w' := by
  have := like28 x y w0
  rw [h] at this; exact this
/-- keys that are to be read -/
def KeysP (h : Array Obj) (A : List Grp) : Prop := ∀ g ∈ A, Src h (.slice g.q g.key.length g.c) g.key.length 1 (flat enS g.key)
theorem KeysP.ext {w w' : World} {A : List Grp} (h : KeysP w.heap A) (hx : Ext w w') : KeysP w'.heap A := fun g hg => (h g hg).ext hx
theorem keysP_of {h : Array Obj} {lo : Nat} {A : Acc} (hK : KOK h lo (A.map (·.1))) : KeysP h (A.map toG) := fun g hg => by
  obtain ⟨x, hx, rfl⟩ := List.mem_map.1 hg; exact (hK.own x.1 (List.mem_map_of_mem hx)).src
theorem cols_take {h : Array Obj} {a : Option Addr} {c m : Nat} {ls : List Int} (hs : Src h (.slice a ls.length c) ls.length 1 (flat enI ls)) (hm : m ≤ ls.length) : Src h (.slice a m c) (ls.take m).length 1 (flat enI (ls.take m)) := by
  have := Src.take enI_len (j := m) hs hm rfl
  rwa [show (ls.take m).length = m by rw [List.length_take]; omega]
theorem key_take {h : Array Obj} {a : Option Addr} {c m : Nat} {k : Tup} (hs : Src h (.slice a k.length c) k.length 1 (flat enS k)) (hm : m ≤ k.length) : Src h (.slice a m c) (k.take m).length 1 (flat enS (k.take m)) := by
  have := Src.take enS_len (j := m) hs hm rfl
  rwa [show (k.take m).length = m by rw [List.length_take]; omega]
theorem alike_two {ls : List Int} {P Q : List Tup} {A B : Acc} (h : A.map gT = grpL ls P) (h' : B.map gT = grpL ls Q) (hs : setL Q = setL P) : (A.map toG).length = (B.map toG).length ∧ ∀ j, j < (A.map toG).length → AlikeG (el (A.map toG) j) (el (B.map toG) j) := by
  have e : grpL ls Q = grpL ls P := by unfold grpL; rw [hs]
  rw [e] at h'
  obtain ⟨a1, a2⟩ := grp_at h
  obtain ⟨b1, b2⟩ := grp_at h'
  refine ⟨by rw [List.length_map, List.length_map]; omega, fun j hj => ?_⟩
  rw [List.length_map] at hj
  rw [el_map hj, el_map (by omega)]
  obtain ⟨c1, c2⟩ := a2 j hj
  obtain ⟨d1, d2⟩ := b2 j (by omega)
  have e1 := congrArg List.length (c2.trans d2.symm)
  rw [tp_len, tp_len] at e1
  exact .of (c1.trans d1.symm) (by show (((el A j).2.length : Nat) : Int) = (((el B j).2.length : Nat) : Int); rw [e1]) rfl (.refl _) (.refl _) (.refl _) (like_sim (.refl _)) (like_sim (.refl _))
set_option maxHeartbeats 4000000 in
theorem same17 (A B : List Grp) (va vb : Value) (w0 : World) (ha : Src w0.heap va A.length 8 (flat enG A)) (hb : Src w0.heap vb B.length 8 (flat enG B)) (hkA : KeysP w0.heap A) (hkB : KeysP w0.heap B) (hl : A.length = B.length) (hs : ∀ j, j < A.length → AlikeG (el A j) (el B j)) : Calls Tryd.prog 17 #[va, vb] w0 fun e w' => e = .returned (.bool true) ∧ Ext w0 w' := by
  have hE0 : Below w0.heap.size w0 w0 := Below.refl _ _
  have hz0 := hE0.le
  obtain ⟨a, ca, rfl, hca, hca1⟩ := ha.form
  obtain ⟨b, cb, rfl, hcb, hcb1⟩ := hb.form
  refine enter Tryd.func17 rfl 87 Tryd.ntmps17 rfl ?_
  refine seqK fun Q1 kn2 kr3 ke4 => ?_
  refine region ?_
  refine st_q (v := .bool false) (x_assign rfl) ?_
  refine st_nil ?_
  refine kn2 _ _ ?_
  refine seqK fun Q5 kn6 kr7 ke8 => ?_
  refine seqK fun Q9 kn10 kr11 ke12 => ?_
  refine region ?_
  refine st_q (v := .slice a A.length ca) (x_move rfl) ?_
  refine st_q (v := .int .i64 ((A.length : Nat) : Int)) (x_lenSl rfl Tryd.underlying32 rfl) ?_
  refine st_q (v := .slice b B.length cb) (x_move rfl) ?_
  refine st_q (v := .int .i64 ((B.length : Nat) : Int)) (x_lenSl rfl Tryd.underlying32 rfl) ?_
  refine st_q (v := .bool (decide (A.length ≠ B.length))) (x_neqN rfl rfl) ?_
  refine st_nil ?_
  refine kn10 _ _ ?_
  refine cnd (p := A.length ≠ B.length) rfl (fun h13 => ?_) (fun h13 => ?_)
  ·
    exact absurd h13 (not_not_intro hl)
  ·
    refine skip ?_
    refine kn6 _ _ ?_
    refine seqK fun Q14 kn15 kr16 ke17 => ?_
    refine seqK fun Q18 kn19 kr20 ke21 => ?_
    refine region ?_
    refine st_q (v := .int .i64 ((0 : Nat) : Int)) (x_assign rfl) ?_
    refine st_nil ?_
    refine kn19 _ _ ?_
    refine blockK fun Q22 kn23 kr24 kx25 kb26 => ?_
    refine loopK (α := Nat) (fun x => [(0, .slice a A.length ca), (1, .slice b B.length cb), (5, .int .i64 ((x : Nat) : Int))]) (fun x w27 => Below w0.heap.size w0 w27 ∧ x ≤ A.length) (fun x => A.length - x) (0) ⟨rfl, rfl, rfl, trivial⟩ ?_ ?_
    ·
      refine ⟨hE0, ?_⟩
      try dsimp only
      exact Nat.zero_le _
    ·
      rintro τ28 i w29 ⟨hx30, hi⟩
      try dsimp only at hi
      have hz31 := hx30.le
      intro Q32 kn33 kr34 ke35
      refine seqK fun Q36 kn37 kr38 ke39 => ?_
      refine seqK fun Q40 kn41 kr42 ke43 => ?_
      refine region ?_
      refine st_q (v := .int .i64 ((i : Nat) : Int)) (x_move rfl) ?_
      refine st_q (v := .slice a A.length ca) (x_move rfl) ?_
      refine st_q (v := .int .i64 ((A.length : Nat) : Int)) (x_lenSl rfl Tryd.underlying32 rfl) ?_
      refine st_q (v := .bool (decide (i < A.length))) (x_lssN rfl rfl) ?_
      refine st_nil ?_
      refine kn41 _ _ ?_
      refine cnd (p := i < A.length) rfl (fun h44 => ?_) (fun h44 => ?_)
      ·
        refine skip ?_
        refine kn37 _ _ ?_
        refine seqK fun Q45 kn46 kr47 ke48 => ?_
        refine blockK fun Q49 kn50 kr51 kx52 kb53 => ?_
        refine seqLK (n := 87) (ds := []) (α := Nat × Nat) (fun x => [(0, .slice a A.length ca), (1, .slice b B.length cb), (5, .int .i64 ((i : Nat) : Int)), (6, .pointer (some ⟨x.1, 0, none⟩)), (7, .pointer (some ⟨x.2, 0, none⟩))]) (fun x w54 => Below w0.heap.size w0 w54 ∧ Blk w54.heap x.1 [.slice ((el A i).q) ((el A i).key.length) ((el A i).c), .int .i64 ((el A i).count), .int .i64 ((el A i).numbers), .float .f64 ((el A i).sum), .float .f64 ((el A i).mean), .float .f64 ((el A i).spread), .float .f64 ((el A i).least), .float .f64 ((el A i).greatest)] 44 ∧ Blk w54.heap x.2 [.slice ((el B i).q) ((el B i).key.length) ((el B i).c), .int .i64 ((el B i).count), .int .i64 ((el B i).numbers), .float .f64 ((el B i).sum), .float .f64 ((el B i).mean), .float .f64 ((el B i).spread), .float .f64 ((el B i).least), .float .f64 ((el B i).greatest)] 44) ?_ ?_
        ·
          intro Q55 kn56 kr57 ke58
          refine regionD1 [3, 7] [0, 1, 2, 3, 4, 5, 6, 7] (.one 0 (.one 1 (.one 2 (.one 3 (.one 4 (.one 5 (.one 6 (.one 7 (.two 8 (.one 9 (.one 10 (.one 11 .done))) 9 (.one 8 (.one 10 (.one 11 .done)))))))))))) (by kernel_rfl) (by kernel_rfl) ?_
          intro w59 hx60 hs61
          have hE62 : Below w0.heap.size w0 w59 := hx60.e hx30 (Nat.le_refl _)
          have hz63 := hE62.le
          have hs64 := hx60.size
          have hS65 : Ext w59 w59 := Below.refl _ _
          refine d_q (v := .slice a A.length ca) rfl rfl (fun _ => x_move rfl) ?_
          refine d_q (v := .int .i64 ((i : Nat) : Int)) rfl rfl (fun _ => x_move rfl) ?_
          obtain ⟨b66, o67, ha68, hc69⟩ := ha.at (by omega)
          refine d_q (v := .pointer (some ⟨b66, o67 + i * 8, none⟩)) rfl rfl (fun _ => x_index' T.sl32 rfl ha68 rfl (by omega)) ?_
          refine d_l (v := .agg #[.slice ((el A i).q) ((el A i).key.length) ((el A i).c), .int .i64 ((el A i).count), .int .i64 ((el A i).numbers), .float .f64 ((el A i).sum), .float .f64 ((el A i).mean), .float .f64 ((el A i).spread), .float .f64 ((el A i).least), .float .f64 ((el A i).greatest)]) rfl rfl rfl (fun v71 hw70 => x_loadA [.slice ((el A i).q) ((el A i).key.length) ((el A i).c), .int .i64 ((el A i).count), .int .i64 ((el A i).numbers), .float .f64 ((el A i).sum), .float .f64 ((el A i).mean), .float .f64 ((el A i).spread), .float .f64 ((el A i).least), .float .f64 ((el A i).greatest)] T.ag44 rfl (((hc69.below hE62).elem enG_len (i := i) (by omega)).ext hw70)) ?_
          refine d_q (v := .slice b B.length cb) rfl rfl (fun _ => x_move rfl) ?_
          refine d_q (v := .int .i64 ((i : Nat) : Int)) rfl rfl (fun _ => x_move rfl) ?_
          obtain ⟨b72, o73, ha74, hc75⟩ := hb.at (by omega)
          refine d_q (v := .pointer (some ⟨b72, o73 + i * 8, none⟩)) rfl rfl (fun _ => x_index' T.sl32 rfl ha74 rfl (by omega)) ?_
          refine d_l (v := .agg #[.slice ((el B i).q) ((el B i).key.length) ((el B i).c), .int .i64 ((el B i).count), .int .i64 ((el B i).numbers), .float .f64 ((el B i).sum), .float .f64 ((el B i).mean), .float .f64 ((el B i).spread), .float .f64 ((el B i).least), .float .f64 ((el B i).greatest)]) rfl rfl rfl (fun v77 hw76 => x_loadA [.slice ((el B i).q) ((el B i).key.length) ((el B i).c), .int .i64 ((el B i).count), .int .i64 ((el B i).numbers), .float .f64 ((el B i).sum), .float .f64 ((el B i).mean), .float .f64 ((el B i).spread), .float .f64 ((el B i).least), .float .f64 ((el B i).greatest)] T.ag44 rfl (((hc75.below hE62).elem enG_len (i := i) (by omega)).ext hw76)) ?_
          refine d_two ?_ ?_
          ·
            refine id (d_e' rfl rfl (e_alloc T.zv44 ?_))
            intro w78 hA79
            have hx80 := hA79.ext
            have hs81 := hA79.size
            have hB82 : Blk w78.heap w59.heap.size [.slice none 0 0, .int .i64 ((0 : Nat) : Int), .int .i64 ((0 : Nat) : Int), .float .f64 0, .float .f64 0, .float .f64 0, .float .f64 0, .float .f64 0] 44 := hA79.new
            have hE83 : Below w0.heap.size w0 w78 := hx80.e hE62 (Nat.le_refl _)
            have hz84 := hE83.le
            have hs85 := hx80.size
            have hS86 := hS65.trans (hx80.mono hS65.size)
            refine ⟨fun _ => hS86, ?_⟩
            refine d_e (by decide) (d_e' rfl rfl (e_alloc T.zv44 ?_))
            intro w87 hA88
            have hx89 := hA88.ext
            have hs90 := hA88.size
            have hB91 : Blk w87.heap w78.heap.size [.slice none 0 0, .int .i64 ((0 : Nat) : Int), .int .i64 ((0 : Nat) : Int), .float .f64 0, .float .f64 0, .float .f64 0, .float .f64 0, .float .f64 0] 44 := hA88.new
            have hB92 := hB82.ext hx89
            have hE93 : Below w0.heap.size w0 w87 := hx89.e hE83 (Nat.le_refl _)
            have hz94 := hE93.le
            have hs95 := hx89.size
            have hS96 := hS86.trans (hx89.mono hS86.size)
            refine ⟨fun _ => hS96, ?_⟩
            refine d_e (by decide) (d_s' rfl rfl (e_st (v := .agg #[.slice ((el A i).q) ((el A i).key.length) ((el A i).c), .int .i64 ((el A i).count), .int .i64 ((el A i).numbers), .float .f64 ((el A i).sum), .float .f64 ((el A i).mean), .float .f64 ((el A i).spread), .float .f64 ((el A i).least), .float .f64 ((el A i).greatest)]) T.sz44 rfl rfl hB92 (by simp [Value.cells]) (by rfl) ?_))
            intro w97 hP98
            have hB99 : Blk w97.heap w59.heap.size [.slice ((el A i).q) ((el A i).key.length) ((el A i).c), .int .i64 ((el A i).count), .int .i64 ((el A i).numbers), .float .f64 ((el A i).sum), .float .f64 ((el A i).mean), .float .f64 ((el A i).spread), .float .f64 ((el A i).least), .float .f64 ((el A i).greatest)] 44 := hP98.new
            have hs100 := hP98.size
            have hB101 := hB91.pt hP98 (by omega)
            have hE102 : Below w0.heap.size w0 w97 := hP98.below hE93 (by omega)
            have hz103 := hE102.le
            have hS104 : Ext w59 w97 := hP98.below hS96 (by omega)
            refine ⟨fun _ => hS104, ?_⟩
            refine d_e (by decide) (d_s' rfl rfl (e_st (v := .agg #[.slice ((el B i).q) ((el B i).key.length) ((el B i).c), .int .i64 ((el B i).count), .int .i64 ((el B i).numbers), .float .f64 ((el B i).sum), .float .f64 ((el B i).mean), .float .f64 ((el B i).spread), .float .f64 ((el B i).least), .float .f64 ((el B i).greatest)]) T.sz44 rfl rfl hB101 (by simp [Value.cells]) (by rfl) ?_))
            intro w105 hP106
            have hB107 : Blk w105.heap w78.heap.size [.slice ((el B i).q) ((el B i).key.length) ((el B i).c), .int .i64 ((el B i).count), .int .i64 ((el B i).numbers), .float .f64 ((el B i).sum), .float .f64 ((el B i).mean), .float .f64 ((el B i).spread), .float .f64 ((el B i).least), .float .f64 ((el B i).greatest)] 44 := hP106.new
            have hs108 := hP106.size
            have hB109 := hB99.pt hP106 (by omega)
            have hE110 : Below w0.heap.size w0 w105 := hP106.below hE102 (by omega)
            have hz111 := hE110.le
            have hS112 : Ext w59 w105 := hP106.below hS104 (by omega)
            refine ⟨fun _ => hS112, ?_⟩
            refine d_done ?_
            refine kn56 _ (w59.heap.size, w78.heap.size) _ ⟨rfl, rfl, rfl, rfl, rfl, trivial⟩ ⟨hE110, ?_⟩
            try dsimp only
            exact ⟨hB109, hB107⟩
          ·
            refine id (d_e' rfl rfl (e_alloc T.zv44 ?_))
            intro w113 hA114
            have hx115 := hA114.ext
            have hs116 := hA114.size
            have hB117 : Blk w113.heap w59.heap.size [.slice none 0 0, .int .i64 ((0 : Nat) : Int), .int .i64 ((0 : Nat) : Int), .float .f64 0, .float .f64 0, .float .f64 0, .float .f64 0, .float .f64 0] 44 := hA114.new
            have hE118 : Below w0.heap.size w0 w113 := hx115.e hE62 (Nat.le_refl _)
            have hz119 := hE118.le
            have hs120 := hx115.size
            have hS121 := hS65.trans (hx115.mono hS65.size)
            refine ⟨fun _ => hS121, ?_⟩
            refine d_e (by decide) (d_e' rfl rfl (e_alloc T.zv44 ?_))
            intro w122 hA123
            have hx124 := hA123.ext
            have hs125 := hA123.size
            have hB126 : Blk w122.heap w113.heap.size [.slice none 0 0, .int .i64 ((0 : Nat) : Int), .int .i64 ((0 : Nat) : Int), .float .f64 0, .float .f64 0, .float .f64 0, .float .f64 0, .float .f64 0] 44 := hA123.new
            have hB127 := hB117.ext hx124
            have hE128 : Below w0.heap.size w0 w122 := hx124.e hE118 (Nat.le_refl _)
            have hz129 := hE128.le
            have hs130 := hx124.size
            have hS131 := hS121.trans (hx124.mono hS121.size)
            refine ⟨fun _ => hS131, ?_⟩
            refine d_e (by decide) (d_s' rfl rfl (e_st (v := .agg #[.slice ((el A i).q) ((el A i).key.length) ((el A i).c), .int .i64 ((el A i).count), .int .i64 ((el A i).numbers), .float .f64 ((el A i).sum), .float .f64 ((el A i).mean), .float .f64 ((el A i).spread), .float .f64 ((el A i).least), .float .f64 ((el A i).greatest)]) T.sz44 rfl rfl hB126 (by simp [Value.cells]) (by rfl) ?_))
            intro w132 hP133
            have hB134 : Blk w132.heap w113.heap.size [.slice ((el A i).q) ((el A i).key.length) ((el A i).c), .int .i64 ((el A i).count), .int .i64 ((el A i).numbers), .float .f64 ((el A i).sum), .float .f64 ((el A i).mean), .float .f64 ((el A i).spread), .float .f64 ((el A i).least), .float .f64 ((el A i).greatest)] 44 := hP133.new
            have hs135 := hP133.size
            have hB136 := hB127.pt hP133 (by omega)
            have hE137 : Below w0.heap.size w0 w132 := hP133.below hE128 (by omega)
            have hz138 := hE137.le
            have hS139 : Ext w59 w132 := hP133.below hS131 (by omega)
            refine ⟨fun _ => hS139, ?_⟩
            refine d_e (by decide) (d_s' rfl rfl (e_st (v := .agg #[.slice ((el B i).q) ((el B i).key.length) ((el B i).c), .int .i64 ((el B i).count), .int .i64 ((el B i).numbers), .float .f64 ((el B i).sum), .float .f64 ((el B i).mean), .float .f64 ((el B i).spread), .float .f64 ((el B i).least), .float .f64 ((el B i).greatest)]) T.sz44 rfl rfl hB136 (by simp [Value.cells]) (by rfl) ?_))
            intro w140 hP141
            have hB142 : Blk w140.heap w59.heap.size [.slice ((el B i).q) ((el B i).key.length) ((el B i).c), .int .i64 ((el B i).count), .int .i64 ((el B i).numbers), .float .f64 ((el B i).sum), .float .f64 ((el B i).mean), .float .f64 ((el B i).spread), .float .f64 ((el B i).least), .float .f64 ((el B i).greatest)] 44 := hP141.new
            have hs143 := hP141.size
            have hB144 := hB134.pt hP141 (by omega)
            have hE145 : Below w0.heap.size w0 w140 := hP141.below hE137 (by omega)
            have hz146 := hE145.le
            have hS147 : Ext w59 w140 := hP141.below hS139 (by omega)
            refine ⟨fun _ => hS147, ?_⟩
            refine d_done ?_
            refine kn56 _ (w113.heap.size, w59.heap.size) _ ⟨rfl, rfl, rfl, rfl, rfl, trivial⟩ ⟨hE145, ?_⟩
            try dsimp only
            exact ⟨hB144, hB142⟩
        ·
          rintro τ148 ⟨b6, b7⟩ w149 ⟨hx150, ⟨hB6, hB7⟩⟩
          try dsimp only at hB6 hB7
          have hz151 := hx150.le
          refine seqK fun Q152 kn153 kr154 ke155 => ?_
          refine region ?_
          refine st_q (v := .pointer (some ⟨b6, 0, none⟩)) (x_field (o := 0) T.fa44_0 rfl) ?_
          refine st_q (v := .slice ((el A i).q) ((el A i).key.length) ((el A i).c)) (x_load1 T.na42 rfl (hB6.one 0 rfl)) ?_
          refine st_q (v := .pointer (some ⟨b7, 0, none⟩)) (x_field (o := 0) T.fa44_0 rfl) ?_
          refine st_q (v := .slice ((el B i).q) ((el B i).key.length) ((el B i).c)) (x_load1 T.na42 rfl (hB7.one 0 rfl)) ?_
          have hsi := hs i (by omega)
          refine st_c (t_call [.slice ((el A i).q) ((el A i).key.length) ((el A i).c), .slice ((el B i).q) ((el B i).key.length) ((el B i).c)] T.cf21 rfl rfl) (same21 (el A i).key (el B i).key _ _ _ ((hkA _ (el_mem' (by omega))).below hx150) ((hkB _ (el_mem' (by omega))).below hx150)) ?_
          rintro _ w156 ⟨rfl, hx157⟩
          refine ⟨_, rfl, ?_⟩
          have hB158 := hB6.ext hx157
          have hB159 := hB7.ext hx157
          have hE160 : Below w0.heap.size w0 w156 := hx157.e hx150 (Nat.le_refl _)
          have hz161 := hE160.le
          have hs162 := hx157.size
          refine st_q (v := .bool (decide (¬ ((el A i).key = (el B i).key)))) (x_notP rfl) ?_
          refine st_if (p := ¬ ((el A i).key = (el B i).key)) (x_move rfl) (fun h163 => ?_) (fun h163 => ?_)
          ·
            exact absurd h163 (not_not_intro hsi.key)
          ·
            refine st_gq 6 33 rfl rfl (by decide) ?_
            refine st_q (v := .pointer (some ⟨b6, 1, none⟩)) (x_field (o := 0) T.fa44_1 rfl) ?_
            refine st_gq 6 33 rfl rfl (by decide) ?_
            refine st_q (v := .int .i64 ((el A i).count)) (x_load1 T.na3 rfl (hB158.one 1 rfl)) ?_
            refine st_gq 6 33 rfl rfl (by decide) ?_
            refine st_q (v := .pointer (some ⟨b7, 1, none⟩)) (x_field (o := 0) T.fa44_1 rfl) ?_
            refine st_gq 6 33 rfl rfl (by decide) ?_
            refine st_q (v := .int .i64 ((el B i).count)) (x_load1 T.na3 rfl (hB159.one 1 rfl)) ?_
            refine st_gq 6 33 rfl rfl (by decide) ?_
            refine st_q (v := .bool (decide (((el A i).count) ≠ ((el B i).count)))) (x_neq rfl rfl) ?_
            refine st_q (v := .bool (decide (((el A i).count) ≠ ((el B i).count)))) (x_pickF rfl rfl) ?_
            refine st_if (p := ((el A i).count) ≠ ((el B i).count)) (x_move rfl) (fun h164 => ?_) (fun h164 => ?_)
            ·
              exact absurd h164 (not_not_intro hsi.count)
            ·
              refine st_gq 13 40 rfl rfl (by decide) ?_
              refine st_q (v := .pointer (some ⟨b6, 2, none⟩)) (x_field (o := 0) T.fa44_2 rfl) ?_
              refine st_gq 13 40 rfl rfl (by decide) ?_
              refine st_q (v := .int .i64 ((el A i).numbers)) (x_load1 T.na3 rfl (hB158.one 2 rfl)) ?_
              refine st_gq 13 40 rfl rfl (by decide) ?_
              refine st_q (v := .pointer (some ⟨b7, 2, none⟩)) (x_field (o := 0) T.fa44_2 rfl) ?_
              refine st_gq 13 40 rfl rfl (by decide) ?_
              refine st_q (v := .int .i64 ((el B i).numbers)) (x_load1 T.na3 rfl (hB159.one 2 rfl)) ?_
              refine st_gq 13 40 rfl rfl (by decide) ?_
              refine st_q (v := .bool (decide (((el A i).numbers) ≠ ((el B i).numbers)))) (x_neq rfl rfl) ?_
              refine st_q (v := .bool (decide (((el A i).numbers) ≠ ((el B i).numbers)))) (x_pickF rfl rfl) ?_
              refine st_if (p := ((el A i).numbers) ≠ ((el B i).numbers)) (x_move rfl) (fun h165 => ?_) (fun h165 => ?_)
              ·
                exact absurd h165 (not_not_intro hsi.numbers)
              ·
                refine st_gq 20 47 rfl rfl (by decide) ?_
                refine st_q (v := .pointer (some ⟨b6, 3, none⟩)) (x_field (o := 0) T.fa44_3 rfl) ?_
                refine st_gq 20 47 rfl rfl (by decide) ?_
                refine st_q (v := .float .f64 ((el A i).sum)) (x_load1 T.na22 rfl (hB158.one 3 rfl)) ?_
                refine st_gq 20 47 rfl rfl (by decide) ?_
                refine st_q (v := .pointer (some ⟨b7, 3, none⟩)) (x_field (o := 0) T.fa44_3 rfl) ?_
                refine st_gq 20 47 rfl rfl (by decide) ?_
                refine st_q (v := .float .f64 ((el B i).sum)) (x_load1 T.na22 rfl (hB159.one 3 rfl)) ?_
                refine st_gq 20 47 rfl rfl (by decide) ?_
                refine st_c (t_call [.float .f64 ((el A i).sum), .float .f64 ((el B i).sum)] T.cf28 rfl rfl) (like28t _ _ _ hsi.sum) ?_
                rintro _ _ ⟨rfl, rfl⟩
                refine ⟨_, rfl, ?_⟩
                refine st_gq 20 47 rfl rfl (by decide) ?_
                refine st_q (v := .bool false) (x_notB (b := true) rfl) ?_
                refine st_q (v := .bool false) (x_pickF rfl rfl) ?_
                refine st_q (v := .bool false) (x_move rfl) ?_
                refine st_gq 28 55 rfl rfl (by decide) ?_
                refine st_q (v := .pointer (some ⟨b6, 4, none⟩)) (x_field (o := 0) T.fa44_4 rfl) ?_
                refine st_gq 28 55 rfl rfl (by decide) ?_
                refine st_q (v := .float .f64 ((el A i).mean)) (x_load1 T.na22 rfl (hB158.one 4 rfl)) ?_
                refine st_gq 28 55 rfl rfl (by decide) ?_
                refine st_q (v := .pointer (some ⟨b7, 4, none⟩)) (x_field (o := 0) T.fa44_4 rfl) ?_
                refine st_gq 28 55 rfl rfl (by decide) ?_
                refine st_q (v := .float .f64 ((el B i).mean)) (x_load1 T.na22 rfl (hB159.one 4 rfl)) ?_
                refine st_gq 28 55 rfl rfl (by decide) ?_
                refine st_c (t_call [.float .f64 ((el A i).mean), .float .f64 ((el B i).mean)] T.cf28 rfl rfl) (like28t _ _ _ hsi.mean) ?_
                rintro _ _ ⟨rfl, rfl⟩
                refine ⟨_, rfl, ?_⟩
                refine st_gq 28 55 rfl rfl (by decide) ?_
                refine st_q (v := .bool false) (x_notB (b := true) rfl) ?_
                refine st_q (v := .bool false) (x_pickF rfl rfl) ?_
                refine st_q (v := .bool false) (x_move rfl) ?_
                refine st_gq 36 63 rfl rfl (by decide) ?_
                refine st_q (v := .pointer (some ⟨b6, 5, none⟩)) (x_field (o := 0) T.fa44_5 rfl) ?_
                refine st_gq 36 63 rfl rfl (by decide) ?_
                refine st_q (v := .float .f64 ((el A i).spread)) (x_load1 T.na22 rfl (hB158.one 5 rfl)) ?_
                refine st_gq 36 63 rfl rfl (by decide) ?_
                refine st_q (v := .pointer (some ⟨b7, 5, none⟩)) (x_field (o := 0) T.fa44_5 rfl) ?_
                refine st_gq 36 63 rfl rfl (by decide) ?_
                refine st_q (v := .float .f64 ((el B i).spread)) (x_load1 T.na22 rfl (hB159.one 5 rfl)) ?_
                refine st_gq 36 63 rfl rfl (by decide) ?_
                refine st_c (t_call [.float .f64 ((el A i).spread), .float .f64 ((el B i).spread)] T.cf28 rfl rfl) (like28t _ _ _ hsi.spread) ?_
                rintro _ _ ⟨rfl, rfl⟩
                refine ⟨_, rfl, ?_⟩
                refine st_gq 36 63 rfl rfl (by decide) ?_
                refine st_q (v := .bool false) (x_notB (b := true) rfl) ?_
                refine st_q (v := .bool false) (x_pickF rfl rfl) ?_
                refine st_q (v := .bool false) (x_move rfl) ?_
                refine st_gq 44 71 rfl rfl (by decide) ?_
                refine st_q (v := .pointer (some ⟨b6, 6, none⟩)) (x_field (o := 0) T.fa44_6 rfl) ?_
                refine st_gq 44 71 rfl rfl (by decide) ?_
                refine st_q (v := .float .f64 ((el A i).least)) (x_load1 T.na22 rfl (hB158.one 6 rfl)) ?_
                refine st_gq 44 71 rfl rfl (by decide) ?_
                refine st_q (v := .pointer (some ⟨b7, 6, none⟩)) (x_field (o := 0) T.fa44_6 rfl) ?_
                refine st_gq 44 71 rfl rfl (by decide) ?_
                refine st_q (v := .float .f64 ((el B i).least)) (x_load1 T.na22 rfl (hB159.one 6 rfl)) ?_
                refine st_gq 44 71 rfl rfl (by decide) ?_
                refine st_c (t_call [.float .f64 ((el A i).least), .float .f64 ((el B i).least)] T.cf28 rfl rfl) (like28t _ _ _ hsi.least) ?_
                rintro _ _ ⟨rfl, rfl⟩
                refine ⟨_, rfl, ?_⟩
                refine st_gq 44 71 rfl rfl (by decide) ?_
                refine st_q (v := .bool false) (x_notB (b := true) rfl) ?_
                refine st_q (v := .bool false) (x_pickF rfl rfl) ?_
                refine st_q (v := .bool false) (x_move rfl) ?_
                refine st_gq 52 79 rfl rfl (by decide) ?_
                refine st_q (v := .pointer (some ⟨b6, 7, none⟩)) (x_field (o := 0) T.fa44_7 rfl) ?_
                refine st_gq 52 79 rfl rfl (by decide) ?_
                refine st_q (v := .float .f64 ((el A i).greatest)) (x_load1 T.na22 rfl (hB158.one 7 rfl)) ?_
                refine st_gq 52 79 rfl rfl (by decide) ?_
                refine st_q (v := .pointer (some ⟨b7, 7, none⟩)) (x_field (o := 0) T.fa44_7 rfl) ?_
                refine st_gq 52 79 rfl rfl (by decide) ?_
                refine st_q (v := .float .f64 ((el B i).greatest)) (x_load1 T.na22 rfl (hB159.one 7 rfl)) ?_
                refine st_gq 52 79 rfl rfl (by decide) ?_
                refine st_c (t_call [.float .f64 ((el A i).greatest), .float .f64 ((el B i).greatest)] T.cf28 rfl rfl) (like28t _ _ _ hsi.greatest) ?_
                rintro _ _ ⟨rfl, rfl⟩
                refine ⟨_, rfl, ?_⟩
                refine st_gq 52 79 rfl rfl (by decide) ?_
                refine st_q (v := .bool false) (x_notB (b := true) rfl) ?_
                refine st_q (v := .bool false) (x_pickF rfl rfl) ?_
                refine st_nil ?_
                refine kn153 _ _ ?_
                refine cndF rfl ?_
                refine skip ?_
                refine kn50 _ _ ?_
                refine kn46 _ _ ?_
                refine region ?_
                refine st_q (v := .int .i64 ((i : Nat) : Int)) (x_move rfl) ?_
                refine st_q (v := .int .i64 (((i + 1) : Nat) : Int)) (x_addN rfl rfl (by omega)) ?_
                refine st_q (v := .int .i64 (((i + 1) : Nat) : Int)) (x_assign rfl) ?_
                refine st_nil ?_
                refine kn33 _ ((i + 1)) _ ⟨rfl, rfl, rfl, trivial⟩ ⟨hE160, ?_⟩ ?_
                ·
                  try dsimp only
                  show _ ≤ _; omega
                ·
                  (try dsimp only); omega
      ·
        refine exit ?_
        refine ke39 _ _ _ ?_
        refine ke35 _ _ _ ?_
        refine kb26 _ _ ?_
        refine kn15 _ _ ?_
        refine seqK fun Q166 kn167 kr168 ke169 => ?_
        refine region ?_
        refine st_q (v := .bool true) (x_assign rfl) ?_
        refine st_nil ?_
        refine kn167 _ _ ?_
        refine ret ?_
        refine leave1 (P := Tryd.prog) (fn := Tryd.f17) (t := 4) (v := .bool true) rfl rfl ?_
        exact ⟨rfl, hx30⟩

set_option maxHeartbeats 4000000 in
theorem counts6bad (pr : ByteArray) (ar : Int) (L : List Row) (va : Value) (ls : List Int) (vb : Value) (w0 : World) (ha : Src w0.heap va L.length 1 (flat enR L)) (hL : RowsP w0.heap L) (hb : Src w0.heap vb ls.length 1 (flat enI ls)) (hn : L.length ≤ 1048576) (hls : ls.length ≤ 1048576) (hw : ∀ x ∈ L, x.2.length ≤ 4398046511104) (hT : Laid w0) (hbad : ¬ (RightR ar (tp L) ∧ ColsOK ar ls)) : Calls Tryd.prog 6 #[.agg #[.string pr, .int .i64 ar, va], vb] w0 fun e w' => e = .returned (.bool true) ∧ Ext w0 w' := by
  have hE0 : Below w0.heap.size w0 w0 := Below.refl _ _
  have hz0 := hE0.le
  obtain ⟨a, ca, rfl, hca, hca1⟩ := ha.form
  obtain ⟨b, cb, rfl, hcb, hcb1⟩ := hb.form
  refine enter Tryd.func6 rfl 181 Tryd.ntmps6 rfl ?_
  refine seqK fun Q1 kn2 kr3 ke4 => ?_
  refine region ?_
  refine st_e (e_box (v := .agg #[.string pr, .int .i64 ar, .slice a L.length ca]) rfl ?_)
  intro w5 hA6
  have hx7 := hA6.ext
  have hs8 := hA6.size
  have hB9 : Blk w5.heap w0.heap.size [.string pr, .int .i64 ar, .slice a L.length ca] 29 := hA6.new
  have hE10 : Below w0.heap.size w0 w5 := hx7.e hE0 (Nat.le_refl _)
  have hz11 := hE10.le
  have hs12 := hx7.size
  refine st_q (v := .bool false) (x_assign rfl) ?_
  refine st_nil ?_
  refine kn2 _ _ ?_
  refine seqK fun Q13 kn14 kr15 ke16 => ?_
  refine seqK fun Q17 kn18 kr19 ke20 => ?_
  refine region ?_
  refine st_c (t_call [] T.cf11 rfl rfl) (known11 _ (hT.below hE10)) ?_
  rintro _ w21 ⟨rfl, hx22⟩
  refine ⟨_, rfl, ?_⟩
  have hB23 := hB9.ext hx22
  have hE24 : Below w0.heap.size w0 w21 := hx22.e hE10 (Nat.le_refl _)
  have hz25 := hE24.le
  have hs26 := hx22.size
  refine st_q (v := .bool false) (x_notB (b := true) rfl) ?_
  refine st_nil ?_
  refine kn18 _ _ ?_
  refine cndF rfl ?_
  refine skip ?_
  refine kn14 _ _ ?_
  refine seqK fun Q27 kn28 kr29 ke30 => ?_
  refine region ?_
  refine st_q (v := .agg #[.string pr, .int .i64 ar, .slice a L.length ca]) (x_loadA [.string pr, .int .i64 ar, .slice a L.length ca] T.ag29 rfl (hB23.cells 0 [.string pr, .int .i64 ar, .slice a L.length ca] (cells_at rfl))) ?_
  refine st_q (v := .slice b ls.length cb) (x_move rfl) ?_
  refine st_c (t_call [.agg #[.string pr, .int .i64 ar, .slice a L.length ca], .slice b ls.length cb] T.cf13 rfl rfl) (groups13e pr ar L _ ls _ _ (ha.below hE24) (RowsP.below hL hE24) (hb.below hE24) (by omega) hbad) ?_
  rintro _ w31 ⟨rfl, hx32⟩
  refine ⟨_, rfl, ?_⟩
  have hB33 := hB23.ext hx32
  have hE34 : Below w0.heap.size w0 w31 := hx32.e hE24 (Nat.le_refl _)
  have hz35 := hE34.le
  have hs36 := hx32.size
  refine st_q (v := .tuple #[.slice none 0 0, .int .i64 ((2 : Nat) : Int)]) (x_move rfl) ?_
  refine st_q (v := .slice none 0 0) (x_extract rfl rfl) ?_
  refine st_q (v := .int .i64 ((2 : Nat) : Int)) (x_extract rfl rfl) ?_
  refine st_q (v := .slice none 0 0) (x_assign rfl) ?_
  refine st_q (v := .int .i64 ((2 : Nat) : Int)) (x_assign rfl) ?_
  refine st_nil ?_
  refine kn28 _ _ ?_
  refine seqK fun Q37 kn38 kr39 ke40 => ?_
  refine seqK fun Q41 kn42 kr43 ke44 => ?_
  refine region ?_
  refine st_q (v := .int .i64 ((2 : Nat) : Int)) (x_move rfl) ?_
  refine st_c (t_call [.int .i64 ((2 : Nat) : Int)] T.cf16 rfl rfl) (num16 2 _) ?_
  rintro _ _ ⟨rfl, rfl⟩
  refine ⟨_, rfl, ?_⟩
  refine st_q (v := .bool (decide (2 ≠ 0))) (x_neqN rfl rfl) ?_
  refine st_nil ?_
  refine kn42 _ _ ?_
  refine cnd (p := 2 ≠ 0) rfl (fun h45 => ?_) (fun h45 => ?_)
  ·
    refine seqK fun Q46 kn47 kr48 ke49 => ?_
    refine region ?_
    refine st_q (v := .slice none 0 0) (x_move rfl) ?_
    refine st_q (v := .int .i64 ((0 : Nat) : Int)) (x_lenSl rfl Tryd.underlying32 rfl) ?_
    refine st_q (v := .bool (decide (0 = 0))) (x_eqlN rfl rfl) ?_
    refine st_q (v := .bool (decide (0 = 0))) (x_assign rfl) ?_
    refine st_nil ?_
    refine kn47 _ _ ?_
    refine ret ?_
    refine kr39 _ _ ?_
    refine leave1 (P := Tryd.prog) (fn := Tryd.f6) (t := 4) (v := .bool (decide (0 = 0))) rfl rfl ?_
    exact ⟨rfl, hE34⟩
  ·
    exact absurd h45 (not_not_intro (by decide))

set_option maxHeartbeats 4000000 in
theorem counts6none (pr : ByteArray) (ar : Int) (L : List Row) (va : Value) (ls : List Int) (vb : Value) (w0 : World) (ha : Src w0.heap va L.length 1 (flat enR L)) (hL : RowsP w0.heap L) (hb : Src w0.heap vb ls.length 1 (flat enI ls)) (hn : L.length ≤ 1048576) (hls : ls.length ≤ 1048576) (hw : ∀ x ∈ L, x.2.length ≤ 4398046511104) (hT : Laid w0) (hG : RightR ar (tp L) ∧ ColsOK ar ls) (h0 : ls.length = 0) : Calls Tryd.prog 6 #[.agg #[.string pr, .int .i64 ar, va], vb] w0 fun e w' => e = .returned (.bool true) ∧ Ext w0 w' := by
  have hE0 : Below w0.heap.size w0 w0 := Below.refl _ _
  have hz0 := hE0.le
  obtain ⟨a, ca, rfl, hca, hca1⟩ := ha.form
  obtain ⟨b, cb, rfl, hcb, hcb1⟩ := hb.form
  refine enter Tryd.func6 rfl 181 Tryd.ntmps6 rfl ?_
  refine seqK fun Q1 kn2 kr3 ke4 => ?_
  refine region ?_
  refine st_e (e_box (v := .agg #[.string pr, .int .i64 ar, .slice a L.length ca]) rfl ?_)
  intro w5 hA6
  have hx7 := hA6.ext
  have hs8 := hA6.size
  have hB9 : Blk w5.heap w0.heap.size [.string pr, .int .i64 ar, .slice a L.length ca] 29 := hA6.new
  have hE10 : Below w0.heap.size w0 w5 := hx7.e hE0 (Nat.le_refl _)
  have hz11 := hE10.le
  have hs12 := hx7.size
  refine st_q (v := .bool false) (x_assign rfl) ?_
  refine st_nil ?_
  refine kn2 _ _ ?_
  refine seqK fun Q13 kn14 kr15 ke16 => ?_
  refine seqK fun Q17 kn18 kr19 ke20 => ?_
  refine region ?_
  refine st_c (t_call [] T.cf11 rfl rfl) (known11 _ (hT.below hE10)) ?_
  rintro _ w21 ⟨rfl, hx22⟩
  refine ⟨_, rfl, ?_⟩
  have hB23 := hB9.ext hx22
  have hE24 : Below w0.heap.size w0 w21 := hx22.e hE10 (Nat.le_refl _)
  have hz25 := hE24.le
  have hs26 := hx22.size
  refine st_q (v := .bool false) (x_notB (b := true) rfl) ?_
  refine st_nil ?_
  refine kn18 _ _ ?_
  refine cndF rfl ?_
  refine skip ?_
  refine kn14 _ _ ?_
  refine seqK fun Q27 kn28 kr29 ke30 => ?_
  refine region ?_
  refine st_q (v := .agg #[.string pr, .int .i64 ar, .slice a L.length ca]) (x_loadA [.string pr, .int .i64 ar, .slice a L.length ca] T.ag29 rfl (hB23.cells 0 [.string pr, .int .i64 ar, .slice a L.length ca] (cells_at rfl))) ?_
  refine st_q (v := .slice b ls.length cb) (x_move rfl) ?_
  refine st_c (t_call [.agg #[.string pr, .int .i64 ar, .slice a L.length ca], .slice b ls.length cb] T.cf13 rfl rfl) (groups13 pr ar L _ ls _ _ (ha.below hE24) (RowsP.below hL hE24) (hb.below hE24) (by omega) hG (by omega)) ?_
  rintro _ w31 ⟨vg, Ag, rfl, hx32, hO33, hKg, hAg⟩
  refine ⟨_, rfl, ?_⟩
  have hB34 := hB23.ext hx32
  have hE35 : Below w0.heap.size w0 w31 := hx32.e hE24 (Nat.le_refl _)
  have hz36 := hE35.le
  have hs37 := hx32.size
  obtain ⟨ag, cg, rfl, hcg, hcg1⟩ := hO33.src.form
  have hlg : (Ag.map toG).length = Ag.length := List.length_map _
  obtain ⟨hng, hatg⟩ := grp_at hAg
  have hOg := hO33.weak (lo' := w0.heap.size) (by omega)
  have hKgw := hKg.weak (lo' := w0.heap.size) (by omega)
  refine st_q (v := .tuple #[.slice ag Ag.length cg, .int .i64 ((0 : Nat) : Int)]) (x_move rfl) ?_
  refine st_q (v := .slice ag Ag.length cg) (x_extract rfl rfl) ?_
  refine st_q (v := .int .i64 ((0 : Nat) : Int)) (x_extract rfl rfl) ?_
  refine st_q (v := .slice ag Ag.length cg) (x_assign rfl) ?_
  refine st_q (v := .int .i64 ((0 : Nat) : Int)) (x_assign rfl) ?_
  refine st_nil ?_
  refine kn28 _ _ ?_
  refine seqK fun Q38 kn39 kr40 ke41 => ?_
  refine seqK fun Q42 kn43 kr44 ke45 => ?_
  refine region ?_
  refine st_q (v := .int .i64 ((0 : Nat) : Int)) (x_move rfl) ?_
  refine st_c (t_call [.int .i64 ((0 : Nat) : Int)] T.cf16 rfl rfl) (num16 0 _) ?_
  rintro _ _ ⟨rfl, rfl⟩
  refine ⟨_, rfl, ?_⟩
  refine st_q (v := .bool (decide (0 ≠ 0))) (x_neqN rfl rfl) ?_
  refine st_nil ?_
  refine kn43 _ _ ?_
  refine cnd (p := 0 ≠ 0) rfl (fun h46 => ?_) (fun h46 => ?_)
  ·
    exact absurd h46 (not_not_intro rfl)
  ·
    refine skip ?_
    refine kn39 _ _ ?_
    refine seqK fun Q47 kn48 kr49 ke50 => ?_
    refine seqK fun Q51 kn52 kr53 ke54 => ?_
    refine region ?_
    refine st_q (v := .slice b ls.length cb) (x_move rfl) ?_
    refine st_q (v := .int .i64 ((ls.length : Nat) : Int)) (x_lenSl rfl Tryd.underlying30 rfl) ?_
    refine st_q (v := .bool (decide (ls.length = 0))) (x_eqlN rfl rfl) ?_
    refine st_nil ?_
    refine kn52 _ _ ?_
    refine cnd (p := ls.length = 0) rfl (fun h55 => ?_) (fun h55 => ?_)
    ·
      refine seqK fun Q56 kn57 kr58 ke59 => ?_
      refine regionD1 [3, 15, 17] [0, 1, 2, 3, 4, 5, 6, 7, 8, 9, 10, 11, 12, 13, 14, 15, 16, 17, 19, 20, 21, 22, 23] (.one 0 (.one 1 (.one 2 (.one 3 (.one 4 (.one 5 (.one 6 (.one 7 (.one 8 (.one 9 (.one 10 (.one 11 (.one 12 (.one 13 (.one 14 (.one 15 (.one 16 (.one 17 (.one 18 (.one 19 (.one 20 (.one 21 (.one 22 (.one 23 .done)))))))))))))))))))))))) (by kernel_rfl) (by kernel_rfl) ?_
      intro w60 hx61 hs62
      have hB63 := hB34.ext hx61
      have hF64 := hOg.ext hx61
      have hF65 := hKgw.ext hx61
      have hE66 : Below w0.heap.size w0 w60 := hx61.e hE35 (Nat.le_refl _)
      have hz67 := hE66.le
      have hs68 := hx61.size
      have hS69 : Ext w60 w60 := Below.refl _ _
      refine d_q (v := .slice ag Ag.length cg) rfl rfl (fun _ => x_move rfl) ?_
      have hls0 : ls = [] := List.eq_nil_of_length_eq_zero h0
      have hkn := keys_none (tp L)
      rw [hls0] at hng hatg hAg
      have hA1 : Ag.length = min 1 L.length := by rw [hng, hkn.1, tp_len]
      refine d_q (v := .int .i64 ((Ag.length : Nat) : Int)) rfl rfl (fun _ => x_lenSl rfl Tryd.underlying32 rfl) ?_
      refine d_q (v := .pointer (some ⟨w0.heap.size, 2, none⟩)) rfl rfl (fun _ => x_field (o := 0) T.fa29_2 rfl) ?_
      refine d_l (v := .slice a L.length ca) rfl rfl rfl (fun v71 hw70 => x_load1 T.na27 rfl ((hB63.one 2 rfl).ext hw70)) ?_
      refine d_q (v := .int .i64 ((L.length : Nat) : Int)) rfl rfl (fun _ => x_lenSl rfl Tryd.underlying27 rfl) ?_
      refine d_q (v := .int .i64 (((min 1 L.length) : Nat) : Int)) rfl rfl (fun _ => x_minN rfl rfl) ?_
      refine d_q (v := .bool (decide (Ag.length = ((min 1 L.length))))) rfl rfl (fun _ => x_eqlN rfl rfl) ?_
      refine d_if rfl rfl (p := Ag.length = ((min 1 L.length))) (fun _ => x_move rfl) (fun h72 => ?_) (fun h72 => ?_)
      ·
        refine d_gq (v := .slice ag Ag.length cg) (j := 7) (t := 41) rfl rfl rfl rfl (by decide) (fun _ => x_move rfl) ?_
        refine d_gq (v := .int .i64 ((Ag.length : Nat) : Int)) (j := 7) (t := 41) rfl rfl rfl rfl (by decide) (fun _ => x_lenSl rfl Tryd.underlying32 rfl) ?_
        refine d_gq (v := .bool (decide (Ag.length = 0))) (j := 7) (t := 41) rfl rfl rfl rfl (by decide) (fun _ => x_eqlN rfl rfl) ?_
        refine d_gif (j := 7) (t := 41) rfl rfl rfl rfl (by decide) (p := Ag.length = 0) (fun _ => x_move rfl) (fun h73 => ?_) (fun h73 => ?_)
        ·
          refine d_gn (j := 11) (t := 45) rfl rfl rfl rfl (by decide) rfl ?_
          refine d_gn (j := 11) (t := 45) rfl rfl rfl rfl (by decide) rfl ?_
          refine d_gn (j := 11) (t := 45) rfl rfl rfl rfl (by decide) rfl ?_
          refine d_gn (j := 11) (t := 45) rfl rfl rfl rfl (by decide) rfl ?_
          refine d_gn (j := 11) (t := 45) rfl rfl rfl rfl (by decide) rfl ?_
          refine d_gn (j := 11) (t := 45) rfl rfl rfl rfl (by decide) rfl ?_
          refine d_e (by decide) (wpE_skip (j := 11) (t := 45) rfl rfl rfl (by decide) rfl (fun _ => hS69) ?_)
          refine d_gn (j := 11) (t := 45) rfl rfl rfl rfl (by decide) rfl ?_
          refine d_gn (j := 11) (t := 45) rfl rfl rfl rfl (by decide) rfl ?_
          refine d_gq (v := .bool true) (j := 7) (t := 41) rfl rfl rfl rfl (by decide) (fun _ => x_pickT rfl rfl) ?_
          refine d_q (v := .bool true) rfl rfl (fun _ => x_pickT rfl rfl) ?_
          refine d_q (v := .bool true) rfl rfl (fun _ => x_assign rfl) ?_
          refine d_done ?_
          refine kn57 _ _ ?_
          refine ret ?_
          refine kr49 _ _ ?_
          refine leave1 (P := Tryd.prog) (fn := Tryd.f6) (t := 4) (v := .bool true) rfl rfl ?_
          exact ⟨rfl, hE66⟩
        ·
          refine d_gq (v := .slice ag Ag.length cg) (j := 11) (t := 45) rfl rfl rfl rfl (by decide) (fun _ => x_move rfl) ?_
          obtain ⟨b74, o75, ha76, hc77⟩ := hF64.src.at (by omega)
          refine d_gq (v := .pointer (some ⟨b74, o75 + 0 * 8, none⟩)) (j := 11) (t := 45) rfl rfl rfl rfl (by decide) (fun _ => x_index' T.sl32 rfl ha76 rfl (by omega)) ?_
          refine d_gq (v := .pointer (some ⟨b74, o75 + 0 * 8 + 1, none⟩)) (j := 11) (t := 45) rfl rfl rfl rfl (by decide) (fun _ => x_field (o := o75 + 0 * 8) T.fa44_1 rfl) ?_
          refine d_gl (v := .int .i64 (((el Ag 0).2.length : Nat) : Int)) (j := 11) (t := 45) rfl rfl rfl rfl rfl (by decide) (fun v79 hw78 => x_load1 T.na3 rfl (Cells.conv (((hc77.elem enG_len (i := 0) (by omega)).ext hw78).fld 1 rfl) (by rw [el_map (by omega)]; rfl))) ?_
          refine d_gq (v := .pointer (some ⟨w0.heap.size, 2, none⟩)) (j := 11) (t := 45) rfl rfl rfl rfl (by decide) (fun _ => x_field (o := 0) T.fa29_2 rfl) ?_
          refine d_gl (v := .slice a L.length ca) (j := 11) (t := 45) rfl rfl rfl rfl rfl (by decide) (fun v81 hw80 => x_load1 T.na27 rfl ((hB63.one 2 rfl).ext hw80)) ?_
          refine d_e (by decide) (d_c' rfl (wanted_true (j := 11) (t := 45) rfl rfl (by decide)) (t_call [.slice a L.length ca] T.cf22 rfl rfl) (refset22 L _ _ (ha.below hE66) (RowsP.below hL hE66) (by omega) hw) ?_)
          rintro _ w82 ⟨vR, R, rfl, hx83, hRt, hO84, _⟩
          refine ⟨_, rfl, ?_⟩
          have hB85 := hB63.ext hx83
          have hF86 := hF64.ext hx83
          have hF87 := hF65.ext hx83
          have hF88 := hc77.ext hx83
          have hE89 : Below w0.heap.size w0 w82 := hx83.e hE66 (Nat.le_refl _)
          have hz90 := hE89.le
          have hs91 := hx83.size
          have hS92 := hS69.trans (hx83.mono hS69.size)
          refine ⟨fun _ => hS92, ?_⟩
          obtain ⟨aR, cR, rfl, hcR, hcR1⟩ := hO84.src.form
          have hRl : R.length = (setL (tp L)).length := by rw [← hRt, tp_len]
          refine d_gq (v := .int .i64 ((R.length : Nat) : Int)) (j := 11) (t := 45) rfl rfl rfl rfl (by decide) (fun _ => x_lenSl rfl Tryd.underlying27 rfl) ?_
          refine d_gq (v := .bool (decide (((el Ag 0).2.length) = R.length))) (j := 11) (t := 45) rfl rfl rfl rfl (by decide) (fun _ => x_eqlN rfl rfl) ?_
          refine d_gq (v := .bool (decide (((el Ag 0).2.length) = R.length))) (j := 7) (t := 41) rfl rfl rfl rfl (by decide) (fun _ => x_pickF rfl rfl) ?_
          refine d_q (v := .bool (decide (((el Ag 0).2.length) = R.length))) rfl rfl (fun _ => x_pickT rfl rfl) ?_
          refine d_q (v := .bool (decide (((el Ag 0).2.length) = R.length))) rfl rfl (fun _ => x_assign rfl) ?_
          refine d_done ?_
          refine kn57 _ _ ?_
          refine ret ?_
          refine kr49 _ _ ?_
          refine leave1 (P := Tryd.prog) (fn := Tryd.f6) (t := 4) (v := .bool (decide (((el Ag 0).2.length) = R.length))) rfl rfl ?_
          have hpos : 0 < Ag.length := by omega
          have hne : tp L ≠ [] := fun e => by have h := congrArg List.length e; rw [tp_len] at h; have h2 : L.length = 0 := h; omega
          have hc := congrArg List.length (hatg 0 hpos).2
          rw [tp_len, hkn.2 hne] at hc
          exact ⟨by rw [decide_eq_true (show (el Ag 0).2.length = R.length by omega)], hE89⟩
      ·
        exact absurd h72 (not_not_intro hA1)
    ·
      exact absurd h55 (not_not_intro h0)

set_option maxHeartbeats 4000000 in
theorem counts6some (pr : ByteArray) (ar : Int) (L : List Row) (va : Value) (ls : List Int) (vb : Value) (w0 : World) (ha : Src w0.heap va L.length 1 (flat enR L)) (hL : RowsP w0.heap L) (hb : Src w0.heap vb ls.length 1 (flat enI ls)) (hn : L.length ≤ 1048576) (hls : ls.length ≤ 1048576) (hw : ∀ x ∈ L, x.2.length ≤ 4398046511104) (hT : Laid w0) (hG : RightR ar (tp L) ∧ ColsOK ar ls) (h0 : 0 < ls.length) : Calls Tryd.prog 6 #[.agg #[.string pr, .int .i64 ar, va], vb] w0 fun e w' => e = .returned (.bool true) ∧ Ext w0 w' := by
  have hE0 : Below w0.heap.size w0 w0 := Below.refl _ _
  have hz0 := hE0.le
  obtain ⟨a, ca, rfl, hca, hca1⟩ := ha.form
  obtain ⟨b, cb, rfl, hcb, hcb1⟩ := hb.form
  refine enter Tryd.func6 rfl 181 Tryd.ntmps6 rfl ?_
  refine seqK fun Q1 kn2 kr3 ke4 => ?_
  refine region ?_
  refine st_e (e_box (v := .agg #[.string pr, .int .i64 ar, .slice a L.length ca]) rfl ?_)
  intro w5 hA6
  have hx7 := hA6.ext
  have hs8 := hA6.size
  have hB9 : Blk w5.heap w0.heap.size [.string pr, .int .i64 ar, .slice a L.length ca] 29 := hA6.new
  have hE10 : Below w0.heap.size w0 w5 := hx7.e hE0 (Nat.le_refl _)
  have hz11 := hE10.le
  have hs12 := hx7.size
  refine st_q (v := .bool false) (x_assign rfl) ?_
  refine st_nil ?_
  refine kn2 _ _ ?_
  refine seqK fun Q13 kn14 kr15 ke16 => ?_
  refine seqK fun Q17 kn18 kr19 ke20 => ?_
  refine region ?_
  refine st_c (t_call [] T.cf11 rfl rfl) (known11 _ (hT.below hE10)) ?_
  rintro _ w21 ⟨rfl, hx22⟩
  refine ⟨_, rfl, ?_⟩
  have hB23 := hB9.ext hx22
  have hE24 : Below w0.heap.size w0 w21 := hx22.e hE10 (Nat.le_refl _)
  have hz25 := hE24.le
  have hs26 := hx22.size
  refine st_q (v := .bool false) (x_notB (b := true) rfl) ?_
  refine st_nil ?_
  refine kn18 _ _ ?_
  refine cndF rfl ?_
  refine skip ?_
  refine kn14 _ _ ?_
  refine seqK fun Q27 kn28 kr29 ke30 => ?_
  refine region ?_
  refine st_q (v := .agg #[.string pr, .int .i64 ar, .slice a L.length ca]) (x_loadA [.string pr, .int .i64 ar, .slice a L.length ca] T.ag29 rfl (hB23.cells 0 [.string pr, .int .i64 ar, .slice a L.length ca] (cells_at rfl))) ?_
  refine st_q (v := .slice b ls.length cb) (x_move rfl) ?_
  refine st_c (t_call [.agg #[.string pr, .int .i64 ar, .slice a L.length ca], .slice b ls.length cb] T.cf13 rfl rfl) (groups13 pr ar L _ ls _ _ (ha.below hE24) (RowsP.below hL hE24) (hb.below hE24) (by omega) hG (by omega)) ?_
  rintro _ w31 ⟨vg, Ag, rfl, hx32, hO33, hKg, hAg⟩
  refine ⟨_, rfl, ?_⟩
  have hB34 := hB23.ext hx32
  have hE35 : Below w0.heap.size w0 w31 := hx32.e hE24 (Nat.le_refl _)
  have hz36 := hE35.le
  have hs37 := hx32.size
  obtain ⟨ag, cg, rfl, hcg, hcg1⟩ := hO33.src.form
  have hlg : (Ag.map toG).length = Ag.length := List.length_map _
  obtain ⟨hng, hatg⟩ := grp_at hAg
  have hOg := hO33.weak (lo' := w0.heap.size) (by omega)
  have hKgw := hKg.weak (lo' := w0.heap.size) (by omega)
  refine st_q (v := .tuple #[.slice ag Ag.length cg, .int .i64 ((0 : Nat) : Int)]) (x_move rfl) ?_
  refine st_q (v := .slice ag Ag.length cg) (x_extract rfl rfl) ?_
  refine st_q (v := .int .i64 ((0 : Nat) : Int)) (x_extract rfl rfl) ?_
  refine st_q (v := .slice ag Ag.length cg) (x_assign rfl) ?_
  refine st_q (v := .int .i64 ((0 : Nat) : Int)) (x_assign rfl) ?_
  refine st_nil ?_
  refine kn28 _ _ ?_
  refine seqK fun Q38 kn39 kr40 ke41 => ?_
  refine seqK fun Q42 kn43 kr44 ke45 => ?_
  refine region ?_
  refine st_q (v := .int .i64 ((0 : Nat) : Int)) (x_move rfl) ?_
  refine st_c (t_call [.int .i64 ((0 : Nat) : Int)] T.cf16 rfl rfl) (num16 0 _) ?_
  rintro _ _ ⟨rfl, rfl⟩
  refine ⟨_, rfl, ?_⟩
  refine st_q (v := .bool (decide (0 ≠ 0))) (x_neqN rfl rfl) ?_
  refine st_nil ?_
  refine kn43 _ _ ?_
  refine cnd (p := 0 ≠ 0) rfl (fun h46 => ?_) (fun h46 => ?_)
  ·
    exact absurd h46 (not_not_intro rfl)
  ·
    refine skip ?_
    refine kn39 _ _ ?_
    refine seqK fun Q47 kn48 kr49 ke50 => ?_
    refine seqK fun Q51 kn52 kr53 ke54 => ?_
    refine region ?_
    refine st_q (v := .slice b ls.length cb) (x_move rfl) ?_
    refine st_q (v := .int .i64 ((ls.length : Nat) : Int)) (x_lenSl rfl Tryd.underlying30 rfl) ?_
    refine st_q (v := .bool (decide (ls.length = 0))) (x_eqlN rfl rfl) ?_
    refine st_nil ?_
    refine kn52 _ _ ?_
    refine cnd (p := ls.length = 0) rfl (fun h55 => ?_) (fun h55 => ?_)
    ·
      exact absurd h55 (by omega)
    ·
      refine skip ?_
      refine kn48 _ _ ?_
      refine seqK fun Q56 kn57 kr58 ke59 => ?_
      refine regionD1 [0] [0, 1, 2, 3, 4, 5, 7, 8, 9, 10, 11] (.one 0 (.one 1 (.one 2 (.one 3 (.one 4 (.one 5 (.one 6 (.one 7 (.one 8 (.one 9 (.one 10 (.one 11 .done)))))))))))) (by kernel_rfl) (by kernel_rfl) ?_
      intro w60 hx61 hs62
      have hB63 := hB34.ext hx61
      have hF64 := hOg.ext hx61
      have hF65 := hKgw.ext hx61
      have hE66 : Below w0.heap.size w0 w60 := hx61.e hE35 (Nat.le_refl _)
      have hz67 := hE66.le
      have hs68 := hx61.size
      have hS69 : Ext w60 w60 := Below.refl _ _
      refine d_l (v := .agg #[.string pr, .int .i64 ar, .slice a L.length ca]) rfl rfl rfl (fun v71 hw70 => x_loadA [.string pr, .int .i64 ar, .slice a L.length ca] T.ag29 rfl ((hB63.cells 0 [.string pr, .int .i64 ar, .slice a L.length ca] (cells_at rfl)).ext hw70)) ?_
      refine d_q (v := .slice b ls.length cb) rfl rfl (fun _ => x_move rfl) ?_
      refine d_q (v := .slice b ls.length cb) rfl rfl (fun _ => x_move rfl) ?_
      refine d_q (v := .int .i64 ((ls.length : Nat) : Int)) rfl rfl (fun _ => x_lenSl rfl Tryd.underlying30 rfl) ?_
      refine d_q (v := .int .i64 (((ls.length - 1) : Nat) : Int)) rfl rfl (fun _ => x_subN rfl rfl (by omega) (by omega)) ?_
      refine d_q (v := .slice b ((ls.length - 1)) cb) rfl rfl (fun _ => x_sliceHi T.sl30 rfl rfl (by omega)) ?_
      refine d_e (by decide) (d_c' rfl rfl (t_call [.agg #[.string pr, .int .i64 ar, .slice a L.length ca], .slice b ((ls.length - 1)) cb] T.cf13 rfl rfl) (groups13 pr ar L _ (ls.take (ls.length - 1)) _ _ (ha.below hE66) (RowsP.below hL hE66) (cols_take (hb.below hE66) (by omega)) (by rw [List.length_take]; omega) (okB_take hG _) (by omega)) ?_)
      rintro _ w72 ⟨vf, Af, rfl, hx73, hO74, hKf, hAf⟩
      refine ⟨_, rfl, ?_⟩
      have hB75 := hB63.ext hx73
      have hF76 := hF64.ext hx73
      have hF77 := hF65.ext hx73
      have hE78 : Below w0.heap.size w0 w72 := hx73.e hE66 (Nat.le_refl _)
      have hz79 := hE78.le
      have hs80 := hx73.size
      have hS81 := hS69.trans (hx73.mono hS69.size)
      refine ⟨fun _ => hS81, ?_⟩
      obtain ⟨af, cf, rfl, hcf, hcf1⟩ := hO74.src.form
      have hlf : (Af.map toG).length = Af.length := List.length_map _
      obtain ⟨hnf, hatf⟩ := grp_at hAf
      have hOf := hO74.weak (lo' := w0.heap.size) (by omega)
      have hKfw := hKf.weak (lo' := w0.heap.size) (by omega)
      refine d_q (v := .tuple #[.slice af Af.length cf, .int .i64 ((0 : Nat) : Int)]) rfl rfl (fun _ => x_move rfl) ?_
      refine d_q (v := .slice af Af.length cf) rfl rfl (fun _ => x_extract rfl rfl) ?_
      refine d_q (v := .int .i64 ((0 : Nat) : Int)) rfl rfl (fun _ => x_extract rfl rfl) ?_
      refine d_q (v := .slice af Af.length cf) rfl rfl (fun _ => x_assign rfl) ?_
      refine d_q (v := .int .i64 ((0 : Nat) : Int)) rfl rfl (fun _ => x_assign rfl) ?_
      refine d_done ?_
      refine kn57 _ _ ?_
      refine seqK fun Q82 kn83 kr84 ke85 => ?_
      refine region ?_
      refine st_q (v := .agg #[.string pr, .int .i64 ar, .slice a L.length ca]) (x_loadA [.string pr, .int .i64 ar, .slice a L.length ca] T.ag29 rfl (hB75.cells 0 [.string pr, .int .i64 ar, .slice a L.length ca] (cells_at rfl))) ?_
      refine st_e (e_alloc T.zv29 ?_)
      intro w86 hA87
      have hx88 := hA87.ext
      have hs89 := hA87.size
      have hB90 : Blk w86.heap w72.heap.size [.string ByteArray.empty, .int .i64 ((0 : Nat) : Int), .slice none 0 0] 29 := hA87.new
      have hB91 := hB75.ext hx88
      have hF92 := hF76.ext hx88
      have hF93 := hF77.ext hx88
      have hF94 := hOf.ext hx88
      have hF95 := hKfw.ext hx88
      have hE96 : Below w0.heap.size w0 w86 := hx88.e hE78 (Nat.le_refl _)
      have hz97 := hE96.le
      have hs98 := hx88.size
      refine st_s (e_st (v := .agg #[.string pr, .int .i64 ar, .slice a L.length ca]) T.sz29 rfl rfl hB90 (by simp [Value.cells]) (by rfl) ?_)
      intro w99 hP100
      have hB101 : Blk w99.heap w72.heap.size [.string pr, .int .i64 ar, .slice a L.length ca] 29 := hP100.new
      have hs102 := hP100.size
      have hB103 := hB91.pt hP100 (by omega)
      have hF104 := hF92.gk (hP100.grownBy) (hB90.rowk) (by decide)
      have hF105 := hF93.gk (hP100.grownBy) (hB90.rowk) (by decide)
      have hF106 := hF94.gk (hP100.grownBy) (hB90.rowk) (by decide)
      have hF107 := hF95.gk (hP100.grownBy) (hB90.rowk) (by decide)
      have hE108 : Below w0.heap.size w0 w99 := hP100.below hE96 (by omega)
      have hz109 := hE108.le
      refine st_nil ?_
      refine kn83 _ _ ?_
      refine seqK fun Q110 kn111 kr112 ke113 => ?_
      refine region ?_
      refine st_q (v := .pointer (some ⟨w72.heap.size, 2, none⟩)) (x_field (o := 0) T.fa29_2 rfl) ?_
      refine st_s (e_st (v := .slice none 0 0) T.sz27 rfl rfl hB101 (by simp [Value.cells]) (by rfl) ?_)
      intro w114 hP115
      have hB116 : Blk w114.heap w72.heap.size [.string pr, .int .i64 ar, .slice none 0 0] 29 := hP115.new
      have hs117 := hP115.size
      have hB118 := hB103.pt hP115 (by omega)
      have hF119 := hF104.gk (hP115.grownBy) (hB101.rowk) (by decide)
      have hF120 := hF105.gk (hP115.grownBy) (hB101.rowk) (by decide)
      have hF121 := hF106.gk (hP115.grownBy) (hB101.rowk) (by decide)
      have hF122 := hF107.gk (hP115.grownBy) (hB101.rowk) (by decide)
      have hE123 : Below w0.heap.size w0 w114 := hP115.below hE108 (by omega)
      have hz124 := hE123.le
      refine st_nil ?_
      refine kn111 _ _ ?_
      refine seqK fun Q125 kn126 kr127 ke128 => ?_
      refine seqK fun Q129 kn130 kr131 ke132 => ?_
      refine region ?_
      refine st_q (v := .pointer (some ⟨w0.heap.size, 2, none⟩)) (x_field (o := 0) T.fa29_2 rfl) ?_
      refine st_q (v := .slice a L.length ca) (x_load1 T.na27 rfl (hB118.one 2 rfl)) ?_
      refine st_q (v := .int .i64 ((L.length : Nat) : Int)) (x_lenSl rfl Tryd.underlying27 rfl) ?_
      refine st_q (v := .int .i64 ((((L.length : Nat) : Int) - 1))) (x_sub rfl rfl ⟨by omega, by omega⟩) ?_
      refine st_q (v := .int .i64 ((((L.length : Nat) : Int) - 1))) (x_assign rfl) ?_
      refine st_nil ?_
      refine kn130 _ _ ?_
      refine blockK fun Q133 kn134 kr135 kx136 kb137 => ?_
      refine loopK (α := Int × (List Row) × (Option Addr) × Nat × Nat) (fun x => [(1, .slice b ls.length cb), (2, .pointer (some ⟨w0.heap.size, 0, none⟩)), (5, .slice ag Ag.length cg), (7, .slice af Af.length cf), (8, .int .i64 ((0 : Nat) : Int)), (9, .pointer (some ⟨w72.heap.size, 0, none⟩)), (10, .int .i64 x.1)]) (fun x w138 => Below w0.heap.size w0 w138 ∧ (-1 ≤ x.1 ∧ x.1 < L.length ∧ x.2.2.2.1 = x.2.1.length ∧ ((x.2.1.length : Nat) : Int) + 2 * (x.1 + 1) = 2 * L.length ∧ (∀ y ∈ x.2.1, y ∈ L) ∧ (∀ j : Nat, x.1 < j → j < L.length → el L j ∈ x.2.1) ∧ Blk w138.heap w72.heap.size [.string pr, .int .i64 ar, .slice x.2.2.1 x.2.2.2.1 x.2.2.2.2] 29 ∧ Own w138.heap w0.heap.size 42 1 (.slice x.2.2.1 x.2.2.2.1 x.2.2.2.2) x.2.2.2.1 (flat enR x.2.1)) ∧ Blk w138.heap w0.heap.size [.string pr, .int .i64 ar, .slice a L.length ca] 29 ∧ Own w138.heap w0.heap.size 44 8 (.slice ag Ag.length cg) Ag.length (flat enG (Ag.map toG)) ∧ KOK w138.heap w0.heap.size (Ag.map (·.1)) ∧ Own w138.heap w0.heap.size 44 8 (.slice af Af.length cf) Af.length (flat enG (Af.map toG)) ∧ KOK w138.heap w0.heap.size (Af.map (·.1))) (fun x => (x.1 + 1).toNat) ((((L.length : Nat) : Int) - 1), [], none, 0, 0) ⟨rfl, rfl, rfl, rfl, rfl, rfl, rfl, trivial⟩ ?_ ?_
      ·
        refine ⟨hE123, ?_⟩
        try dsimp only
        refine ⟨?_, hB118, hF119, hF120, hF121, hF122⟩
        exact ⟨by omega, by omega, rfl, by simp only [List.length_nil]; omega, fun y hy => by simp at hy, fun j h1 h2 => by omega, hB116, Own.nil _ _ _ _⟩
      ·
        rintro τ139 ⟨z, W, aT, n, cT⟩ w140 ⟨hx146, ⟨⟨hz1, hz2, hnT, hTl, hTL, hTa, hB9, hOT⟩, hC141, hC142, hC143, hC144, hC145⟩⟩
        try dsimp only at hz1 hz2 hnT hTl hTL hTa hB9 hOT hC141 hC142 hC143 hC144 hC145
        have hz147 := hx146.le
        intro Q148 kn149 kr150 ke151
        refine seqK fun Q152 kn153 kr154 ke155 => ?_
        refine seqK fun Q156 kn157 kr158 ke159 => ?_
        refine region ?_
        refine st_q (v := .int .i64 z) (x_move rfl) ?_
        refine st_q (v := .bool (decide (0 ≤ z))) (x_geq rfl rfl) ?_
        refine st_nil ?_
        refine kn157 _ _ ?_
        refine cnd (p := 0 ≤ z) rfl (fun h160 => ?_) (fun h160 => ?_)
        ·
          refine skip ?_
          refine kn153 _ _ ?_
          refine seqK fun Q161 kn162 kr163 ke164 => ?_
          refine blockK fun Q165 kn166 kr167 kx168 kb169 => ?_
          refine regionD1 [1, 3, 6, 8, 11] [0, 1, 2, 3, 4, 5, 6, 7, 8, 9, 10, 11, 14] (.one 0 (.one 1 (.one 2 (.one 3 (.one 4 (.one 5 (.one 6 (.one 7 (.one 8 (.one 9 (.one 10 (.one 11 (.one 12 (.one 13 (.one 14 (.one 15 .done)))))))))))))))) (by kernel_rfl) (by kernel_rfl) ?_
          intro w170 hx171 hs172
          have hB173 := hC141.ext hx171
          have hB174 := hB9.ext hx171
          have hF175 := hC142.ext hx171
          have hF176 := hC143.ext hx171
          have hF177 := hC144.ext hx171
          have hF178 := hC145.ext hx171
          have hF179 := hOT.ext hx171
          have hE180 : Below w0.heap.size w0 w170 := hx171.e hx146 (Nat.le_refl _)
          have hz181 := hE180.le
          have hs182 := hx171.size
          have hS183 : Ext w170 w170 := Below.refl _ _
          obtain ⟨k, hkz⟩ : ∃ k : Nat, z = ((k : Nat) : Int) := ⟨z.toNat, by omega⟩
          refine d_q (v := .pointer (some ⟨w72.heap.size, 2, none⟩)) rfl rfl (fun _ => x_field (o := 0) T.fa29_2 rfl) ?_
          refine d_l (v := .slice aT n cT) rfl rfl rfl (fun v185 hw184 => x_load1 T.na27 rfl ((hB174.one 2 rfl).ext hw184)) ?_
          refine d_q (v := .pointer (some ⟨w0.heap.size, 2, none⟩)) rfl rfl (fun _ => x_field (o := 0) T.fa29_2 rfl) ?_
          refine d_l (v := .slice a L.length ca) rfl rfl rfl (fun v187 hw186 => x_load1 T.na27 rfl ((hB173.one 2 rfl).ext hw186)) ?_
          refine d_q (v := .int .i64 z) rfl rfl (fun _ => x_move rfl) ?_
          obtain ⟨b188, o189, ha190, hc191⟩ := ha.at (by omega)
          refine d_q (v := .pointer (some ⟨b188, o189 + k * 1, none⟩)) rfl rfl (fun _ => x_index' T.sl27 rfl ha190 (Eq.trans rfl (congrArg (Value.int .i64) hkz)) (by omega)) ?_
          refine d_l (v := .slice ((el L k).1.1) ((el L k).2.length) ((el L k).1.2)) rfl rfl rfl (fun v193 hw192 => x_load1 T.na42 rfl (((hc191.below hE180).elem enR_len (i := k) (by omega)).ext hw192)) ?_
          refine d_q (v := .pointer (some ⟨w0.heap.size, 2, none⟩)) rfl rfl (fun _ => x_field (o := 0) T.fa29_2 rfl) ?_
          refine d_l (v := .slice a L.length ca) rfl rfl rfl (fun v195 hw194 => x_load1 T.na27 rfl ((hB173.one 2 rfl).ext hw194)) ?_
          refine d_q (v := .int .i64 z) rfl rfl (fun _ => x_move rfl) ?_
          refine d_q (v := .pointer (some ⟨b188, o189 + k * 1, none⟩)) rfl rfl (fun _ => x_index' T.sl27 rfl ha190 (Eq.trans rfl (congrArg (Value.int .i64) hkz)) (by omega)) ?_
          refine d_l (v := .slice ((el L k).1.1) ((el L k).2.length) ((el L k).1.2)) rfl rfl rfl (fun v197 hw196 => x_load1 T.na42 rfl (((hc191.below hE180).elem enR_len (i := k) (by omega)).ext hw196)) ?_
          refine d_e (by decide) (d_e' rfl rfl (e_buildSlice (cs := [.slice ((el L k).1.1) ((el L k).2.length) ((el L k).1.2), .slice ((el L k).1.1) ((el L k).2.length) ((el L k).1.2)]) (e := 42) (fun _ => by kernel_rfl) ?_))
          intro w198 hA199
          have hx200 := hA199.ext
          have hs201 := hA199.size
          have hB202 : Blk w198.heap w170.heap.size [.slice ((el L k).1.1) ((el L k).2.length) ((el L k).1.2), .slice ((el L k).1.1) ((el L k).2.length) ((el L k).1.2)] 42 := hA199.new
          have hB203 := hB173.ext hx200
          have hB204 := hB174.ext hx200
          have hF205 := hF175.ext hx200
          have hF206 := hF176.ext hx200
          have hF207 := hF177.ext hx200
          have hF208 := hF178.ext hx200
          have hF209 := hF179.ext hx200
          have hE210 : Below w0.heap.size w0 w198 := hx200.e hE180 (Nat.le_refl _)
          have hz211 := hE210.le
          have hs212 := hx200.size
          have hS213 := hS183.trans (hx200.mono hS183.size)
          refine ⟨fun _ => hS213, ?_⟩
          refine d_e (by decide) (d_e' rfl rfl (e_appendX T.sl27 rfl rfl hF209 (hB202.src1 (k := 1) (m := 2) rfl (by omega)) (ones (by rfl)) (by omega) (by decide) (by omega) ?_))
          intro v214 w215 hO216 hG217 hN218 hW219
          have hB220 := hB203.gk (hG217) (hF209.rowk) (by decide)
          have hB221 := hB204.gk (hG217) (hF209.rowk) (by decide)
          have hF222 := hF205.gk (hG217) (hF209.rowk) (by decide)
          have hF223 := hF206.gk (hG217) (hF209.rowk) (by decide)
          have hF224 := hF207.gk (hG217) (hF209.rowk) (by decide)
          have hF225 := hF208.gk (hG217) (hF209.rowk) (by decide)
          have hE226 : Below w0.heap.size w0 w215 := grown_below hG217 hE210 (Nat.le_refl _) (fun b hb => (by have := (hF209.lt hb).1; clear hb; omega))
          have hz227 := hE226.le
          have hs228 := hG217.size
          refine ⟨need_no (by kernel_rfl), ?_⟩
          have hO229 := Own.app (enc := enR) (ys := [el L k, el L k]) hO216
          obtain ⟨a230, c231, rfl, hm232, hm233⟩ := hO229.src.form
          refine d_q (v := .pointer (some ⟨w72.heap.size, 2, none⟩)) rfl rfl (fun _ => x_field (o := 0) T.fa29_2 rfl) ?_
          refine d_e (by decide) (d_s' rfl rfl (e_st (v := .slice a230 ((n + 2)) c231) T.sz27 rfl rfl hB221 (by simp [Value.cells]) (by rfl) ?_))
          intro w234 hP235
          have hB236 : Blk w234.heap w72.heap.size [.string pr, .int .i64 ar, .slice a230 ((n + 2)) c231] 29 := hP235.new
          have hs237 := hP235.size
          have hB238 := hB220.pt hP235 (by omega)
          have hF239 := hF222.gk (hP235.grownBy) (hB221.rowk) (by decide)
          have hF240 := hF223.gk (hP235.grownBy) (hB221.rowk) (by decide)
          have hF241 := hF224.gk (hP235.grownBy) (hB221.rowk) (by decide)
          have hF242 := hF225.gk (hP235.grownBy) (hB221.rowk) (by decide)
          have hF243 := hO229.gk (hP235.grownBy) (hB221.rowk) (by decide)
          have hE244 : Below w0.heap.size w0 w234 := hP235.below hE226 (by omega)
          have hz245 := hE244.le
          refine ⟨need_no (by kernel_rfl), ?_⟩
          refine d_done ?_
          refine kn166 _ _ ?_
          refine kn162 _ _ ?_
          refine region ?_
          refine st_q (v := .int .i64 z) (x_move rfl) ?_
          refine st_q (v := .int .i64 ((z - 1))) (x_sub rfl rfl ⟨by omega, by omega⟩) ?_
          refine st_q (v := .int .i64 ((z - 1))) (x_assign rfl) ?_
          refine st_nil ?_
          refine kn149 _ ((z - 1), (W ++ [el L k, el L k]), a230, (n + 2), c231) _ ⟨rfl, rfl, rfl, rfl, rfl, rfl, rfl, trivial⟩ ⟨hE244, ?_⟩ ?_
          ·
            try dsimp only
            refine ⟨?_, hB238, hF239, hF240, hF241, hF242⟩
            refine ⟨by omega, by omega, by simp [hnT], by simp only [List.length_append, List.length_cons, List.length_nil]; omega, fun y hy => ?_, fun j h1 h2 => ?_, hB236, hF243⟩
            · rcases List.mem_append.1 hy with hy | hy
              · exact hTL y hy
              · simp only [List.mem_cons, List.not_mem_nil, or_false, or_self] at hy; subst hy; exact el_mem' (by omega)
            · by_cases he : j = k
              · subst he; exact List.mem_append_right _ (by simp)
              · exact List.mem_append_left _ (hTa j (by omega) h2)
          ·
            (try dsimp only); omega
        ·
          refine exit ?_
          refine ke155 _ _ _ ?_
          refine ke151 _ _ _ ?_
          refine kb137 _ _ ?_
          refine kn126 _ _ ?_
          refine seqK fun Q246 kn247 kr248 ke249 => ?_
          refine region ?_
          have hTm : ∀ t, t ∈ tp W ↔ t ∈ tp L := fun t => ⟨fun h => by obtain ⟨y, hy, rfl⟩ := List.mem_map.1 h; exact List.mem_map_of_mem (hTL y hy), fun h => by obtain ⟨y, hy, rfl⟩ := List.mem_map.1 h; obtain ⟨j, hj, rfl⟩ := List.getElem_of_mem hy; rw [← el_eq hj]; exact List.mem_map_of_mem (hTa j (by omega) hj)⟩
          have hTG : RightR ar (tp W) ∧ ColsOK ar ls := ⟨⟨fun t ht => hG.1.1 t ((hTm t).1 ht), hG.1.2⟩, hG.2⟩
          have hTP : RowsP w0.heap W := fun x hx => hL x (hTL x hx)
          refine st_q (v := .agg #[.string pr, .int .i64 ar, .slice aT n cT]) (x_loadA [.string pr, .int .i64 ar, .slice aT n cT] T.ag29 rfl (hB9.cells 0 [.string pr, .int .i64 ar, .slice aT n cT] (cells_at rfl))) ?_
          refine st_q (v := .slice b ls.length cb) (x_move rfl) ?_
          refine st_c (t_call [.agg #[.string pr, .int .i64 ar, .slice aT n cT], .slice b ls.length cb] T.cf13 rfl rfl) (groups13 pr ar W _ ls _ _ (by rw [← hnT]; exact hOT.src) (RowsP.below hTP hx146) (hb.below hx146) (by omega) hTG (by omega)) ?_
          rintro _ w250 ⟨vu, Au, rfl, hx251, hO252, hKu, hAu⟩
          refine ⟨_, rfl, ?_⟩
          have hB253 := hC141.ext hx251
          have hB254 := hB9.ext hx251
          have hF255 := hC142.ext hx251
          have hF256 := hC143.ext hx251
          have hF257 := hC144.ext hx251
          have hF258 := hC145.ext hx251
          have hF259 := hOT.ext hx251
          have hE260 : Below w0.heap.size w0 w250 := hx251.e hx146 (Nat.le_refl _)
          have hz261 := hE260.le
          have hs262 := hx251.size
          obtain ⟨au, cu, rfl, hcu, hcu1⟩ := hO252.src.form
          have hlu : (Au.map toG).length = Au.length := List.length_map _
          obtain ⟨hnu, hatu⟩ := grp_at hAu
          have hOu := hO252.weak (lo' := w0.heap.size) (by omega)
          have hKuw := hKu.weak (lo' := w0.heap.size) (by omega)
          refine st_q (v := .tuple #[.slice au Au.length cu, .int .i64 ((0 : Nat) : Int)]) (x_move rfl) ?_
          refine st_q (v := .slice au Au.length cu) (x_extract rfl rfl) ?_
          refine st_q (v := .int .i64 ((0 : Nat) : Int)) (x_extract rfl rfl) ?_
          refine st_q (v := .slice au Au.length cu) (x_assign rfl) ?_
          refine st_q (v := .int .i64 ((0 : Nat) : Int)) (x_assign rfl) ?_
          refine st_nil ?_
          refine kn247 _ _ ?_
          refine seqK fun Q263 kn264 kr265 ke266 => ?_
          refine seqK fun Q267 kn268 kr269 ke270 => ?_
          refine region ?_
          refine st_q (v := .int .i64 ((0 : Nat) : Int)) (x_move rfl) ?_
          refine st_c (t_call [.int .i64 ((0 : Nat) : Int)] T.cf16 rfl rfl) (num16 0 _) ?_
          rintro _ _ ⟨rfl, rfl⟩
          refine ⟨_, rfl, ?_⟩
          refine st_q (v := .bool (decide (0 ≠ 0))) (x_neqN rfl rfl) ?_
          refine st_if (p := 0 ≠ 0) (x_move rfl) (fun h271 => ?_) (fun h271 => ?_)
          ·
            exact absurd h271 (not_not_intro rfl)
          ·
            refine st_gq 3 101 rfl rfl (by decide) ?_
            refine st_q (v := .int .i64 ((0 : Nat) : Int)) (x_move rfl) ?_
            refine st_gq 3 101 rfl rfl (by decide) ?_
            refine st_c (t_call [.int .i64 ((0 : Nat) : Int)] T.cf16 rfl rfl) (num16 0 _) ?_
            rintro _ _ ⟨rfl, rfl⟩
            refine ⟨_, rfl, ?_⟩
            refine st_gq 3 101 rfl rfl (by decide) ?_
            refine st_q (v := .bool (decide (0 ≠ 0))) (x_neqN rfl rfl) ?_
            refine st_q (v := .bool (decide (0 ≠ 0))) (x_pickF rfl rfl) ?_
            refine st_if (p := 0 ≠ 0) (x_move rfl) (fun h272 => ?_) (fun h272 => ?_)
            ·
              exact absurd h272 (not_not_intro rfl)
            ·
              refine st_gq 8 106 rfl rfl (by decide) ?_
              refine st_q (v := .slice ag Ag.length cg) (x_move rfl) ?_
              refine st_gq 8 106 rfl rfl (by decide) ?_
              refine st_q (v := .slice au Au.length cu) (x_move rfl) ?_
              refine st_gq 8 106 rfl rfl (by decide) ?_
              have hal := alike_two hAg hAu (setL_same hTm)
              refine st_c (t_call [.slice ag Ag.length cg, .slice au Au.length cu] T.cf17 rfl rfl) (same17 (Ag.map toG) (Au.map toG) _ _ _ (by rw [hlg]; exact hF255.src) (by rw [hlu]; exact hOu.src) (keysP_of hF256) (keysP_of hKuw) hal.1 hal.2) ?_
              rintro _ w273 ⟨rfl, hx274⟩
              refine ⟨_, rfl, ?_⟩
              have hB275 := hB253.ext hx274
              have hB276 := hB254.ext hx274
              have hF277 := hF255.ext hx274
              have hF278 := hF256.ext hx274
              have hF279 := hF257.ext hx274
              have hF280 := hF258.ext hx274
              have hF281 := hF259.ext hx274
              have hF282 := hOu.ext hx274
              have hF283 := hKuw.ext hx274
              have hE284 : Below w0.heap.size w0 w273 := hx274.e hE260 (Nat.le_refl _)
              have hz285 := hE284.le
              have hs286 := hx274.size
              refine st_gq 8 106 rfl rfl (by decide) ?_
              refine st_q (v := .bool false) (x_notB (b := true) rfl) ?_
              refine st_q (v := .bool false) (x_pickF rfl rfl) ?_
              refine st_nil ?_
              refine kn268 _ _ ?_
              refine cndF rfl ?_
              refine skip ?_
              refine kn264 _ _ ?_
              refine seqK fun Q287 kn288 kr289 ke290 => ?_
              refine region ?_
              refine st_q (v := .int .i64 ((0 : Nat) : Int)) (x_assign rfl) ?_
              refine st_q (v := .int .i64 ((0 : Nat) : Int)) (x_assign rfl) ?_
              refine st_nil ?_
              refine kn288 _ _ ?_
              refine seqK fun Q291 kn292 kr293 ke294 => ?_
              refine seqK fun Q295 kn296 kr297 ke298 => ?_
              refine region ?_
              refine st_q (v := .int .i64 ((0 : Nat) : Int)) (x_assign rfl) ?_
              refine st_nil ?_
              refine kn296 _ _ ?_
              refine blockK fun Q299 kn300 kr301 kx302 kb303 => ?_
              have hkg : ∀ j, j < Ag.length → (el (Ag.map toG) j).key = el (keysL ls (tp L)) j := fun j hj => by rw [el_map hj]; exact (hatg j hj).1
              have hkf : ∀ j, j < Af.length → (el (Af.map toG) j).key = el (keysL (ls.take (ls.length - 1)) (tp L)) j := fun j hj => by rw [el_map hj]; exact (hatf j hj).1
              have hkl : ∀ j, j < Ag.length → (el (Ag.map toG) j).key.length = ls.length := fun j hj => by rw [hkg j hj]; exact keys_len (el_mem' (by omega))
              have hcg : ∀ j, j < Ag.length → (el Ag j).2.length = (memL ls (tp L) (el (keysL ls (tp L)) j)).length := fun j hj => by have h := congrArg List.length (hatg j hj).2; rwa [tp_len] at h
              have hcf : ∀ j, j < Af.length → (el Af j).2.length = (memL (ls.take (ls.length - 1)) (tp L) (el (keysL (ls.take (ls.length - 1)) (tp L)) j)).length := fun j hj => by have h := congrArg List.length (hatf j hj).2; rwa [tp_len] at h
              have hSL : (setL (tp L)).length ≤ 1048576 := Nat.le_trans (setL_len _) (by rw [tp_len]; exact hn)
              have hmx : ∀ j, j < Ag.length → (el Ag j).2.length ≤ 1048576 := fun j hj => Nat.le_trans (grp_len hAg _ (el_mem' hj)) (by rw [tp_len]; exact hn)
              refine loopK (α := Nat × Nat × Nat) (fun x => [(1, .slice b ls.length cb), (2, .pointer (some ⟨w0.heap.size, 0, none⟩)), (5, .slice ag Ag.length cg), (7, .slice af Af.length cf), (13, .int .i64 ((x.2.2 : Nat) : Int)), (14, .int .i64 ((x.2.1 : Nat) : Int)), (15, .int .i64 ((x.1 : Nat) : Int))]) (fun x w304 => Below w0.heap.size w0 w304 ∧ (x.1 ≤ Af.length ∧ At ls (tp L) (ls.length - 1) x.1 x.2.1 ∧ x.2.2 = cntL ls (tp L) 0 x.2.1) ∧ Blk w304.heap w0.heap.size [.string pr, .int .i64 ar, .slice a L.length ca] 29 ∧ Blk w304.heap w72.heap.size [.string pr, .int .i64 ar, .slice aT n cT] 29 ∧ Own w304.heap w0.heap.size 44 8 (.slice ag Ag.length cg) Ag.length (flat enG (Ag.map toG)) ∧ KOK w304.heap w0.heap.size (Ag.map (·.1)) ∧ Own w304.heap w0.heap.size 44 8 (.slice af Af.length cf) Af.length (flat enG (Af.map toG)) ∧ KOK w304.heap w0.heap.size (Af.map (·.1)) ∧ Own w304.heap w0.heap.size 44 8 (.slice au Au.length cu) Au.length (flat enG (Au.map toG)) ∧ KOK w304.heap w0.heap.size (Au.map (·.1))) (fun x => Af.length - x.1) (0, 0, 0) ⟨rfl, rfl, rfl, rfl, rfl, rfl, rfl, trivial⟩ ?_ ?_
              ·
                refine ⟨hE284, ?_⟩
                try dsimp only
                refine ⟨?_, hB275, hB276, hF277, hF278, hF279, hF280, hF282, hF283⟩
                exact ⟨Nat.zero_le _, At.zero _ _ _, (cnt_self _ _ _).symm⟩
              ·
                rintro τ305 ⟨i, a2, s⟩ w306 ⟨hx315, ⟨⟨hi, hAtt, hs⟩, hC307, hC308, hC309, hC310, hC311, hC312, hC313, hC314⟩⟩
                try dsimp only at hi hAtt hs hC307 hC308 hC309 hC310 hC311 hC312 hC313 hC314
                have hz316 := hx315.le
                intro Q317 kn318 kr319 ke320
                refine seqK fun Q321 kn322 kr323 ke324 => ?_
                refine seqK fun Q325 kn326 kr327 ke328 => ?_
                refine region ?_
                refine st_q (v := .int .i64 ((i : Nat) : Int)) (x_move rfl) ?_
                refine st_q (v := .slice af Af.length cf) (x_move rfl) ?_
                refine st_q (v := .int .i64 ((Af.length : Nat) : Int)) (x_lenSl rfl Tryd.underlying32 rfl) ?_
                refine st_q (v := .bool (decide (i < Af.length))) (x_lssN rfl rfl) ?_
                refine st_nil ?_
                refine kn326 _ _ ?_
                refine cnd (p := i < Af.length) rfl (fun h329 => ?_) (fun h329 => ?_)
                ·
                  refine skip ?_
                  refine kn322 _ _ ?_
                  refine seqK fun Q330 kn331 kr332 ke333 => ?_
                  refine blockK fun Q334 kn335 kr336 kx337 kb338 => ?_
                  refine seqK fun Q339 kn340 kr341 ke342 => ?_
                  refine region ?_
                  refine st_q (v := .int .i64 ((0 : Nat) : Int)) (x_assign rfl) ?_
                  refine st_nil ?_
                  refine kn340 _ _ ?_
                  refine seqK fun Q343 kn344 kr345 ke346 => ?_
                  refine blockK fun Q347 kn348 kr349 kx350 kb351 => ?_
                  refine loopK (α := Nat × Nat) (fun x => [(1, .slice b ls.length cb), (2, .pointer (some ⟨w0.heap.size, 0, none⟩)), (5, .slice ag Ag.length cg), (7, .slice af Af.length cf), (13, .int .i64 ((s : Nat) : Int)), (14, .int .i64 ((x.1 : Nat) : Int)), (15, .int .i64 ((i : Nat) : Int)), (16, .int .i64 ((x.2 : Nat) : Int))]) (fun x w352 => Below w0.heap.size w0 w352 ∧ (a2 ≤ x.1 ∧ x.1 ≤ Ag.length ∧ x.2 = cntL ls (tp L) a2 x.1 ∧ ∀ j, a2 ≤ j → j < x.1 → (el (keysL ls (tp L)) j).take (ls.length - 1) = el (keysL (ls.take (ls.length - 1)) (tp L)) i) ∧ Blk w352.heap w0.heap.size [.string pr, .int .i64 ar, .slice a L.length ca] 29 ∧ Blk w352.heap w72.heap.size [.string pr, .int .i64 ar, .slice aT n cT] 29 ∧ Own w352.heap w0.heap.size 44 8 (.slice ag Ag.length cg) Ag.length (flat enG (Ag.map toG)) ∧ KOK w352.heap w0.heap.size (Ag.map (·.1)) ∧ Own w352.heap w0.heap.size 44 8 (.slice af Af.length cf) Af.length (flat enG (Af.map toG)) ∧ KOK w352.heap w0.heap.size (Af.map (·.1)) ∧ Own w352.heap w0.heap.size 44 8 (.slice au Au.length cu) Au.length (flat enG (Au.map toG)) ∧ KOK w352.heap w0.heap.size (Au.map (·.1))) (fun x => Ag.length - x.1) (a2, 0) ⟨rfl, rfl, rfl, rfl, rfl, rfl, rfl, rfl, trivial⟩ ?_ ?_
                  ·
                    refine ⟨hx315, ?_⟩
                    try dsimp only
                    refine ⟨?_, hC307, hC308, hC309, hC310, hC311, hC312, hC313, hC314⟩
                    exact ⟨Nat.le_refl _, by have := hAtt.le; omega, (cnt_self _ _ _).symm, fun j h1 h2 => by omega⟩
                  ·
                    rintro τ353 ⟨b2, n2⟩ w354 ⟨hx363, ⟨⟨hab, hbl, hn2, hrun⟩, hC355, hC356, hC357, hC358, hC359, hC360, hC361, hC362⟩⟩
                    try dsimp only at hab hbl hn2 hrun hC355 hC356 hC357 hC358 hC359 hC360 hC361 hC362
                    have hz364 := hx363.le
                    intro Q365 kn366 kr367 ke368
                    refine seqK fun Q369 kn370 kr371 ke372 => ?_
                    refine seqK fun Q373 kn374 kr375 ke376 => ?_
                    refine regionD1 [9, 20, 29] [0, 1, 2, 3, 4, 5, 6, 7, 8, 9, 10, 11, 12, 13, 14, 15, 16, 17, 18, 19, 20, 21, 22, 23, 24, 25, 26, 27, 28, 29, 31] (.one 0 (.one 1 (.one 2 (.one 3 (.one 4 (.one 5 (.one 6 (.one 7 (.one 8 (.one 9 (.one 10 (.one 11 (.one 12 (.one 13 (.one 14 (.one 15 (.one 16 (.one 17 (.one 18 (.one 19 (.one 20 (.one 21 (.one 22 (.one 23 (.one 24 (.one 25 (.one 26 (.one 27 (.one 28 (.one 29 (.one 30 (.one 31 .done)))))))))))))))))))))))))))))))) (by kernel_rfl) (by kernel_rfl) ?_
                    intro w377 hx378 hs379
                    have hB380 := hC355.ext hx378
                    have hB381 := hC356.ext hx378
                    have hF382 := hC357.ext hx378
                    have hF383 := hC358.ext hx378
                    have hF384 := hC359.ext hx378
                    have hF385 := hC360.ext hx378
                    have hF386 := hC361.ext hx378
                    have hF387 := hC362.ext hx378
                    have hE388 : Below w0.heap.size w0 w377 := hx378.e hx363 (Nat.le_refl _)
                    have hz389 := hE388.le
                    have hs390 := hx378.size
                    have hS391 : Ext w377 w377 := Below.refl _ _
                    refine d_q (v := .int .i64 ((b2 : Nat) : Int)) rfl rfl (fun _ => x_move rfl) ?_
                    refine d_q (v := .slice ag Ag.length cg) rfl rfl (fun _ => x_move rfl) ?_
                    refine d_q (v := .int .i64 ((Ag.length : Nat) : Int)) rfl rfl (fun _ => x_lenSl rfl Tryd.underlying32 rfl) ?_
                    refine d_q (v := .bool (decide (b2 < Ag.length))) rfl rfl (fun _ => x_lssN rfl rfl) ?_
                    refine d_if rfl rfl (p := b2 < Ag.length) (fun _ => x_move rfl) (fun h392 => ?_) (fun h392 => ?_)
                    ·
                      refine d_gq (v := .slice ag Ag.length cg) (j := 4) (t := 122) rfl rfl rfl rfl (by decide) (fun _ => x_move rfl) ?_
                      refine d_gq (v := .int .i64 ((b2 : Nat) : Int)) (j := 4) (t := 122) rfl rfl rfl rfl (by decide) (fun _ => x_move rfl) ?_
                      obtain ⟨b393, o394, ha395, hc396⟩ := hF382.src.at (by omega)
                      refine d_gq (v := .pointer (some ⟨b393, o394 + b2 * 8, none⟩)) (j := 4) (t := 122) rfl rfl rfl rfl (by decide) (fun _ => x_index' T.sl32 rfl ha395 rfl (by omega)) ?_
                      refine d_gq (v := .pointer (some ⟨b393, o394 + b2 * 8, none⟩)) (j := 4) (t := 122) rfl rfl rfl rfl (by decide) (fun _ => x_field (o := o394 + b2 * 8) T.fa44_0 rfl) ?_
                      refine d_gl (v := .slice ((el (Ag.map toG) b2).q) ((el (Ag.map toG) b2).key.length) ((el (Ag.map toG) b2).c)) (j := 4) (t := 122) rfl rfl rfl rfl rfl (by decide) (fun v398 hw397 => x_load1 T.na42 rfl (((hc396.elem enG_len (i := b2) (by omega)).fld 0 rfl).ext hw397)) ?_
                      refine d_gq (v := .int .i64 (((el (Ag.map toG) b2).key.length : Nat) : Int)) (j := 4) (t := 122) rfl rfl rfl rfl (by decide) (fun _ => x_lenSl rfl Tryd.underlying42 rfl) ?_
                      refine d_gq (v := .slice b ls.length cb) (j := 4) (t := 122) rfl rfl rfl rfl (by decide) (fun _ => x_move rfl) ?_
                      refine d_gq (v := .int .i64 ((ls.length : Nat) : Int)) (j := 4) (t := 122) rfl rfl rfl rfl (by decide) (fun _ => x_lenSl rfl Tryd.underlying30 rfl) ?_
                      refine d_gq (v := .bool (decide (((el (Ag.map toG) b2).key.length) = ls.length))) (j := 4) (t := 122) rfl rfl rfl rfl (by decide) (fun _ => x_eqlN rfl rfl) ?_
                      refine d_q (v := .bool (decide (((el (Ag.map toG) b2).key.length) = ls.length))) rfl rfl (fun _ => x_pickT rfl rfl) ?_
                      refine d_if rfl rfl (p := ((el (Ag.map toG) b2).key.length) = ls.length) (fun _ => x_move rfl) (fun h399 => ?_) (fun h399 => ?_)
                      ·
                        refine d_gq (v := .slice ag Ag.length cg) (j := 15) (t := 133) rfl rfl rfl rfl (by decide) (fun _ => x_move rfl) ?_
                        refine d_gq (v := .int .i64 ((b2 : Nat) : Int)) (j := 15) (t := 133) rfl rfl rfl rfl (by decide) (fun _ => x_move rfl) ?_
                        obtain ⟨b400, o401, ha402, hc403⟩ := hF382.src.at (by omega)
                        refine d_gq (v := .pointer (some ⟨b400, o401 + b2 * 8, none⟩)) (j := 15) (t := 133) rfl rfl rfl rfl (by decide) (fun _ => x_index' T.sl32 rfl ha402 rfl (by omega)) ?_
                        refine d_gq (v := .pointer (some ⟨b400, o401 + b2 * 8, none⟩)) (j := 15) (t := 133) rfl rfl rfl rfl (by decide) (fun _ => x_field (o := o401 + b2 * 8) T.fa44_0 rfl) ?_
                        have hsl := ((keysP_of hF383) _ (el_mem' (xs := Ag.map toG) (i := b2) (by omega))).capl
                        have hkl2 := hkl b2 (by omega)
                        refine d_gl (v := .slice ((el (Ag.map toG) b2).q) ((el (Ag.map toG) b2).key.length) ((el (Ag.map toG) b2).c)) (j := 15) (t := 133) rfl rfl rfl rfl rfl (by decide) (fun v405 hw404 => x_load1 T.na42 rfl (((hc403.elem enG_len (i := b2) (by omega)).ext hw404).fld 0 rfl)) ?_
                        refine d_gq (v := .slice b ls.length cb) (j := 15) (t := 133) rfl rfl rfl rfl (by decide) (fun _ => x_move rfl) ?_
                        refine d_gq (v := .int .i64 ((ls.length : Nat) : Int)) (j := 15) (t := 133) rfl rfl rfl rfl (by decide) (fun _ => x_lenSl rfl Tryd.underlying30 rfl) ?_
                        refine d_gq (v := .int .i64 (((ls.length - 1) : Nat) : Int)) (j := 15) (t := 133) rfl rfl rfl rfl (by decide) (fun _ => x_subN rfl rfl (by omega) (by omega)) ?_
                        refine d_gq (v := .slice ((el (Ag.map toG) b2).q) ((ls.length - 1)) ((el (Ag.map toG) b2).c)) (j := 15) (t := 133) rfl rfl rfl rfl (by decide) (fun _ => x_sliceHi T.sl42 rfl rfl (by omega)) ?_
                        refine d_gq (v := .slice af Af.length cf) (j := 15) (t := 133) rfl rfl rfl rfl (by decide) (fun _ => x_move rfl) ?_
                        refine d_gq (v := .int .i64 ((i : Nat) : Int)) (j := 15) (t := 133) rfl rfl rfl rfl (by decide) (fun _ => x_move rfl) ?_
                        obtain ⟨b406, o407, ha408, hc409⟩ := hF384.src.at (by omega)
                        refine d_gq (v := .pointer (some ⟨b406, o407 + i * 8, none⟩)) (j := 15) (t := 133) rfl rfl rfl rfl (by decide) (fun _ => x_index' T.sl32 rfl ha408 rfl (by omega)) ?_
                        refine d_gq (v := .pointer (some ⟨b406, o407 + i * 8, none⟩)) (j := 15) (t := 133) rfl rfl rfl rfl (by decide) (fun _ => x_field (o := o407 + i * 8) T.fa44_0 rfl) ?_
                        refine d_gl (v := .slice ((el (Af.map toG) i).q) ((el (Af.map toG) i).key.length) ((el (Af.map toG) i).c)) (j := 15) (t := 133) rfl rfl rfl rfl rfl (by decide) (fun v411 hw410 => x_load1 T.na42 rfl (((hc409.elem enG_len (i := i) (by omega)).fld 0 rfl).ext hw410)) ?_
                        refine d_e (by decide) (d_c' rfl (wanted_true (j := 15) (t := 133) rfl rfl (by decide)) (t_call [.slice ((el (Ag.map toG) b2).q) ((ls.length - 1)) ((el (Ag.map toG) b2).c), .slice ((el (Af.map toG) i).q) ((el (Af.map toG) i).key.length) ((el (Af.map toG) i).c)] T.cf21 rfl rfl) (same21 ((el (Ag.map toG) b2).key.take (ls.length - 1)) (el (Af.map toG) i).key _ _ _ (key_take ((keysP_of hF383) _ (el_mem' (by omega))) (by omega)) ((keysP_of hF385) _ (el_mem' (by omega)))) ?_)
                        rintro _ w412 ⟨rfl, hx413⟩
                        refine ⟨_, rfl, ?_⟩
                        have hB414 := hB380.ext hx413
                        have hB415 := hB381.ext hx413
                        have hF416 := hF382.ext hx413
                        have hF417 := hF383.ext hx413
                        have hF418 := hF384.ext hx413
                        have hF419 := hF385.ext hx413
                        have hF420 := hF386.ext hx413
                        have hF421 := hF387.ext hx413
                        have hF422 := hc396.ext hx413
                        have hF423 := hc403.ext hx413
                        have hF424 := hc409.ext hx413
                        have hE425 : Below w0.heap.size w0 w412 := hx413.e hE388 (Nat.le_refl _)
                        have hz426 := hE425.le
                        have hs427 := hx413.size
                        have hS428 := hS391.trans (hx413.mono hS391.size)
                        refine ⟨fun _ => hS428, ?_⟩
                        refine d_q (v := .bool (decide ((el (Ag.map toG) b2).key.take (ls.length - 1) = (el (Af.map toG) i).key))) rfl rfl (fun _ => x_pickT rfl rfl) ?_
                        refine d_done ?_
                        refine kn374 _ _ ?_
                        refine cnd (p := (el (Ag.map toG) b2).key.take (ls.length - 1) = (el (Af.map toG) i).key) rfl (fun h429 => ?_) (fun h429 => ?_)
                        ·
                          refine skip ?_
                          refine kn370 _ _ ?_
                          refine blockK fun Q430 kn431 kr432 kx433 kb434 => ?_
                          refine seqK fun Q435 kn436 kr437 ke438 => ?_
                          refine region ?_
                          have hcle := cnt_le ls (tp L) a2 b2
                          have hmx1 := hmx b2 (by omega)
                          refine st_q (v := .int .i64 ((n2 : Nat) : Int)) (x_move rfl) ?_
                          refine st_q (v := .slice ag Ag.length cg) (x_move rfl) ?_
                          refine st_q (v := .int .i64 ((b2 : Nat) : Int)) (x_move rfl) ?_
                          obtain ⟨b439, o440, ha441, hc442⟩ := hF416.src.at (by omega)
                          refine st_q (v := .pointer (some ⟨b439, o440 + b2 * 8, none⟩)) (x_index' T.sl32 rfl ha441 rfl (by omega)) ?_
                          refine st_q (v := .pointer (some ⟨b439, o440 + b2 * 8 + 1, none⟩)) (x_field (o := o440 + b2 * 8) T.fa44_1 rfl) ?_
                          refine st_q (v := .int .i64 (((el Ag b2).2.length : Nat) : Int)) (x_load1 T.na3 rfl (Cells.conv ((hc442.elem enG_len (i := b2) (by omega)).fld 1 rfl) (by rw [el_map (by omega)]; rfl))) ?_
                          refine st_q (v := .int .i64 (((n2 + (el Ag b2).2.length) : Nat) : Int)) (x_addN rfl rfl (by omega)) ?_
                          refine st_q (v := .int .i64 (((n2 + (el Ag b2).2.length) : Nat) : Int)) (x_assign rfl) ?_
                          refine st_nil ?_
                          refine kn436 _ _ ?_
                          refine region ?_
                          refine st_q (v := .int .i64 ((b2 : Nat) : Int)) (x_move rfl) ?_
                          refine st_q (v := .int .i64 (((b2 + 1) : Nat) : Int)) (x_addN rfl rfl (by omega)) ?_
                          refine st_q (v := .int .i64 (((b2 + 1) : Nat) : Int)) (x_assign rfl) ?_
                          refine st_nil ?_
                          refine kn431 _ _ ?_
                          refine kn366 _ ((b2 + 1), (n2 + (el Ag b2).2.length)) _ ⟨rfl, rfl, rfl, rfl, rfl, rfl, rfl, rfl, trivial⟩ ⟨hE425, ?_⟩ ?_
                          ·
                            try dsimp only
                            refine ⟨?_, hB414, hB415, hF416, hF417, hF418, hF419, hF420, hF421⟩
                            refine ⟨by omega, by omega, by rw [cnt_succ hab (by omega), ← hcg b2 (by omega), hn2], fun j h1 h2 => ?_⟩
                            by_cases he : j = b2
                            · subst he; rw [← hkg j (by omega), ← hkf i (by omega)]; assumption
                            · exact hrun j h1 (by omega)
                          ·
                            (try dsimp only); omega
                        ·
                          refine exit ?_
                          refine ke372 _ _ _ ?_
                          refine ke368 _ _ _ ?_
                          refine kb351 _ _ ?_
                          refine kn344 _ _ ?_
                          refine seqK fun Q443 kn444 kr445 ke446 => ?_
                          refine seqK fun Q447 kn448 kr449 ke450 => ?_
                          refine region ?_
                          have hend : b2 < (keysL ls (tp L)).length → (el (keysL ls (tp L)) b2).take (ls.length - 1) ≠ el (keysL (ls.take (ls.length - 1)) (tp L)) i := fun hb e => by first | omega | exact absurd (by rw [hkg b2 (by omega), hkf i (by omega)]; exact e) (by assumption : ¬ (el (Ag.map toG) b2).key.take (ls.length - 1) = (el (Af.map toG) i).key)
                          obtain ⟨hA2, hcnt⟩ := hAtt.next (by omega) hab (by omega) hrun hend
                          have hcle := cnt_le ls (tp L) a2 b2
                          have hcle2 := cnt_le ls (tp L) 0 a2
                          have hcf1 := hcf i (by omega)
                          refine st_q (v := .int .i64 ((n2 : Nat) : Int)) (x_move rfl) ?_
                          refine st_q (v := .slice af Af.length cf) (x_move rfl) ?_
                          refine st_q (v := .int .i64 ((i : Nat) : Int)) (x_move rfl) ?_
                          obtain ⟨b451, o452, ha453, hc454⟩ := hF418.src.at (by omega)
                          refine st_q (v := .pointer (some ⟨b451, o452 + i * 8, none⟩)) (x_index' T.sl32 rfl ha453 rfl (by omega)) ?_
                          refine st_q (v := .pointer (some ⟨b451, o452 + i * 8 + 1, none⟩)) (x_field (o := o452 + i * 8) T.fa44_1 rfl) ?_
                          refine st_q (v := .int .i64 (((el Af i).2.length : Nat) : Int)) (x_load1 T.na3 rfl (Cells.conv ((hc454.elem enG_len (i := i) (by omega)).fld 1 rfl) (by rw [el_map (by omega)]; rfl))) ?_
                          refine st_q (v := .bool (decide (n2 ≠ ((el Af i).2.length)))) (x_neqN rfl rfl) ?_
                          refine st_nil ?_
                          refine kn448 _ _ ?_
                          refine cnd (p := n2 ≠ ((el Af i).2.length)) rfl (fun h455 => ?_) (fun h455 => ?_)
                          ·
                            exact absurd h455 (not_not_intro (by omega))
                          ·
                            refine skip ?_
                            refine kn444 _ _ ?_
                            refine region ?_
                            refine st_q (v := .int .i64 ((s : Nat) : Int)) (x_move rfl) ?_
                            refine st_q (v := .int .i64 ((n2 : Nat) : Int)) (x_move rfl) ?_
                            refine st_q (v := .int .i64 (((s + n2) : Nat) : Int)) (x_addN rfl rfl (by omega)) ?_
                            refine st_q (v := .int .i64 (((s + n2) : Nat) : Int)) (x_assign rfl) ?_
                            refine st_nil ?_
                            refine kn335 _ _ ?_
                            refine kn331 _ _ ?_
                            refine region ?_
                            refine st_q (v := .int .i64 ((i : Nat) : Int)) (x_move rfl) ?_
                            refine st_q (v := .int .i64 (((i + 1) : Nat) : Int)) (x_addN rfl rfl (by omega)) ?_
                            refine st_q (v := .int .i64 (((i + 1) : Nat) : Int)) (x_assign rfl) ?_
                            refine st_nil ?_
                            refine kn318 _ ((i + 1), b2, (s + n2)) _ ⟨rfl, rfl, rfl, rfl, rfl, rfl, rfl, trivial⟩ ⟨hE425, ?_⟩ ?_
                            ·
                              try dsimp only
                              refine ⟨?_, hB414, hB415, hF416, hF417, hF418, hF419, hF420, hF421⟩
                              exact ⟨by omega, hA2, by rw [hs, hn2, cnt_add hab (by omega)]⟩
                            ·
                              (try dsimp only); omega
                      ·
                        exact absurd h399 (not_not_intro (hkl b2 (by omega)))
                    ·
                      refine d_gn (j := 4) (t := 122) rfl rfl rfl rfl (by decide) rfl ?_
                      refine d_gn (j := 4) (t := 122) rfl rfl rfl rfl (by decide) rfl ?_
                      refine d_gn (j := 4) (t := 122) rfl rfl rfl rfl (by decide) rfl ?_
                      refine d_gn (j := 4) (t := 122) rfl rfl rfl rfl (by decide) rfl ?_
                      refine d_gn (j := 4) (t := 122) rfl rfl rfl rfl (by decide) rfl ?_
                      refine d_gn (j := 4) (t := 122) rfl rfl rfl rfl (by decide) rfl ?_
                      refine d_gn (j := 4) (t := 122) rfl rfl rfl rfl (by decide) rfl ?_
                      refine d_gn (j := 4) (t := 122) rfl rfl rfl rfl (by decide) rfl ?_
                      refine d_gn (j := 4) (t := 122) rfl rfl rfl rfl (by decide) rfl ?_
                      refine d_q (v := .bool false) rfl rfl (fun _ => x_pickF rfl rfl) ?_
                      refine d_q (v := .bool false) rfl rfl (fun _ => x_move rfl) ?_
                      refine d_gn (j := 15) (t := 133) rfl rfl rfl rfl (by decide) rfl ?_
                      refine d_gn (j := 15) (t := 133) rfl rfl rfl rfl (by decide) rfl ?_
                      refine d_gn (j := 15) (t := 133) rfl rfl rfl rfl (by decide) rfl ?_
                      refine d_gn (j := 15) (t := 133) rfl rfl rfl rfl (by decide) rfl ?_
                      refine d_gn (j := 15) (t := 133) rfl rfl rfl rfl (by decide) rfl ?_
                      refine d_gn (j := 15) (t := 133) rfl rfl rfl rfl (by decide) rfl ?_
                      refine d_gn (j := 15) (t := 133) rfl rfl rfl rfl (by decide) rfl ?_
                      refine d_gn (j := 15) (t := 133) rfl rfl rfl rfl (by decide) rfl ?_
                      refine d_gn (j := 15) (t := 133) rfl rfl rfl rfl (by decide) rfl ?_
                      refine d_gn (j := 15) (t := 133) rfl rfl rfl rfl (by decide) rfl ?_
                      refine d_gn (j := 15) (t := 133) rfl rfl rfl rfl (by decide) rfl ?_
                      refine d_gn (j := 15) (t := 133) rfl rfl rfl rfl (by decide) rfl ?_
                      refine d_gn (j := 15) (t := 133) rfl rfl rfl rfl (by decide) rfl ?_
                      refine d_gn (j := 15) (t := 133) rfl rfl rfl rfl (by decide) rfl ?_
                      refine d_e (by decide) (wpE_skip (j := 15) (t := 133) rfl rfl rfl (by decide) rfl (fun _ => hS391) ?_)
                      refine d_q (v := .bool false) rfl rfl (fun _ => x_pickF rfl rfl) ?_
                      refine d_done ?_
                      refine kn374 _ _ ?_
                      refine cndF rfl ?_
                      refine exit ?_
                      refine ke372 _ _ _ ?_
                      refine ke368 _ _ _ ?_
                      refine kb351 _ _ ?_
                      refine kn344 _ _ ?_
                      refine seqK fun Q456 kn457 kr458 ke459 => ?_
                      refine seqK fun Q460 kn461 kr462 ke463 => ?_
                      refine region ?_
                      have hend : b2 < (keysL ls (tp L)).length → (el (keysL ls (tp L)) b2).take (ls.length - 1) ≠ el (keysL (ls.take (ls.length - 1)) (tp L)) i := fun hb e => by first | omega | exact absurd (by rw [hkg b2 (by omega), hkf i (by omega)]; exact e) (by assumption : ¬ (el (Ag.map toG) b2).key.take (ls.length - 1) = (el (Af.map toG) i).key)
                      obtain ⟨hA2, hcnt⟩ := hAtt.next (by omega) hab (by omega) hrun hend
                      have hcle := cnt_le ls (tp L) a2 b2
                      have hcle2 := cnt_le ls (tp L) 0 a2
                      have hcf1 := hcf i (by omega)
                      refine st_q (v := .int .i64 ((n2 : Nat) : Int)) (x_move rfl) ?_
                      refine st_q (v := .slice af Af.length cf) (x_move rfl) ?_
                      refine st_q (v := .int .i64 ((i : Nat) : Int)) (x_move rfl) ?_
                      obtain ⟨b464, o465, ha466, hc467⟩ := hF384.src.at (by omega)
                      refine st_q (v := .pointer (some ⟨b464, o465 + i * 8, none⟩)) (x_index' T.sl32 rfl ha466 rfl (by omega)) ?_
                      refine st_q (v := .pointer (some ⟨b464, o465 + i * 8 + 1, none⟩)) (x_field (o := o465 + i * 8) T.fa44_1 rfl) ?_
                      refine st_q (v := .int .i64 (((el Af i).2.length : Nat) : Int)) (x_load1 T.na3 rfl (Cells.conv ((hc467.elem enG_len (i := i) (by omega)).fld 1 rfl) (by rw [el_map (by omega)]; rfl))) ?_
                      refine st_q (v := .bool (decide (n2 ≠ ((el Af i).2.length)))) (x_neqN rfl rfl) ?_
                      refine st_nil ?_
                      refine kn461 _ _ ?_
                      refine cnd (p := n2 ≠ ((el Af i).2.length)) rfl (fun h468 => ?_) (fun h468 => ?_)
                      ·
                        exact absurd h468 (not_not_intro (by omega))
                      ·
                        refine skip ?_
                        refine kn457 _ _ ?_
                        refine region ?_
                        refine st_q (v := .int .i64 ((s : Nat) : Int)) (x_move rfl) ?_
                        refine st_q (v := .int .i64 ((n2 : Nat) : Int)) (x_move rfl) ?_
                        refine st_q (v := .int .i64 (((s + n2) : Nat) : Int)) (x_addN rfl rfl (by omega)) ?_
                        refine st_q (v := .int .i64 (((s + n2) : Nat) : Int)) (x_assign rfl) ?_
                        refine st_nil ?_
                        refine kn335 _ _ ?_
                        refine kn331 _ _ ?_
                        refine region ?_
                        refine st_q (v := .int .i64 ((i : Nat) : Int)) (x_move rfl) ?_
                        refine st_q (v := .int .i64 (((i + 1) : Nat) : Int)) (x_addN rfl rfl (by omega)) ?_
                        refine st_q (v := .int .i64 (((i + 1) : Nat) : Int)) (x_assign rfl) ?_
                        refine st_nil ?_
                        refine kn318 _ ((i + 1), b2, (s + n2)) _ ⟨rfl, rfl, rfl, rfl, rfl, rfl, rfl, trivial⟩ ⟨hE388, ?_⟩ ?_
                        ·
                          try dsimp only
                          refine ⟨?_, hB380, hB381, hF382, hF383, hF384, hF385, hF386, hF387⟩
                          exact ⟨by omega, hA2, by rw [hs, hn2, cnt_add hab (by omega)]⟩
                        ·
                          (try dsimp only); omega
                ·
                  refine exit ?_
                  refine ke324 _ _ _ ?_
                  refine ke320 _ _ _ ?_
                  refine kb303 _ _ ?_
                  refine kn292 _ _ ?_
                  refine seqK fun Q469 kn470 kr471 ke472 => ?_
                  refine region ?_
                  refine st_q (v := .int .i64 ((a2 : Nat) : Int)) (x_move rfl) ?_
                  refine st_q (v := .slice ag Ag.length cg) (x_move rfl) ?_
                  refine st_q (v := .int .i64 ((Ag.length : Nat) : Int)) (x_lenSl rfl Tryd.underlying32 rfl) ?_
                  refine st_q (v := .bool (decide (a2 = Ag.length))) (x_eqlN rfl rfl) ?_
                  refine st_if (p := a2 = Ag.length) (x_move rfl) (fun h473 => ?_) (fun h473 => ?_)
                  ·
                    refine st_gq 4 173 rfl rfl (by decide) ?_
                    refine st_q (v := .int .i64 ((s : Nat) : Int)) (x_move rfl) ?_
                    refine st_gq 4 173 rfl rfl (by decide) ?_
                    refine st_q (v := .pointer (some ⟨w0.heap.size, 2, none⟩)) (x_field (o := 0) T.fa29_2 rfl) ?_
                    refine st_gq 4 173 rfl rfl (by decide) ?_
                    refine st_q (v := .slice a L.length ca) (x_load1 T.na27 rfl (hC307.one 2 rfl)) ?_
                    refine st_gq 4 173 rfl rfl (by decide) ?_
                    refine st_c (t_call [.slice a L.length ca] T.cf22 rfl rfl) (refset22 L _ _ (ha.below hx315) (RowsP.below hL hx315) (by omega) hw) ?_
                    rintro _ w474 ⟨vR, R, rfl, hx475, hRt, hO476, _⟩
                    refine ⟨_, rfl, ?_⟩
                    have hB477 := hC307.ext hx475
                    have hB478 := hC308.ext hx475
                    have hF479 := hC309.ext hx475
                    have hF480 := hC310.ext hx475
                    have hF481 := hC311.ext hx475
                    have hF482 := hC312.ext hx475
                    have hF483 := hC313.ext hx475
                    have hF484 := hC314.ext hx475
                    have hE485 : Below w0.heap.size w0 w474 := hx475.e hx315 (Nat.le_refl _)
                    have hz486 := hE485.le
                    have hs487 := hx475.size
                    obtain ⟨aR, cR, rfl, hcR, hcR1⟩ := hO476.src.form
                    have hRl : R.length = (setL (tp L)).length := by rw [← hRt, tp_len]
                    refine st_gq 4 173 rfl rfl (by decide) ?_
                    refine st_q (v := .int .i64 ((R.length : Nat) : Int)) (x_lenSl rfl Tryd.underlying27 rfl) ?_
                    refine st_gq 4 173 rfl rfl (by decide) ?_
                    refine st_q (v := .bool (decide (s = R.length))) (x_eqlN rfl rfl) ?_
                    refine st_q (v := .bool (decide (s = R.length))) (x_pickT rfl rfl) ?_
                    refine st_q (v := .bool (decide (s = R.length))) (x_assign rfl) ?_
                    refine st_nil ?_
                    refine kn470 _ _ ?_
                    refine ret ?_
                    refine leave1 (P := Tryd.prog) (fn := Tryd.f6) (t := 4) (v := .bool (decide (s = R.length))) rfl rfl ?_
                    have ha2 : a2 = (keysL ls (tp L)).length := At.done (by rw [← hnf, show Af.length = i by omega]; exact hAtt)
                    exact ⟨by rw [decide_eq_true (show s = R.length by rw [hs, ha2, cnt_all, hRl])], hE485⟩
                  ·
                    exact absurd h473 (not_not_intro (by rw [hng]; exact At.done (by rw [← hnf, show Af.length = i by omega]; exact hAtt)))

theorem counts6 (pr : ByteArray) (ar : Int) (L : List Row) (va : Value) (ls : List Int) (vb : Value) (w0 : World) (ha : Src w0.heap va L.length 1 (flat enR L)) (hL : RowsP w0.heap L) (hb : Src w0.heap vb ls.length 1 (flat enI ls)) (hn : L.length ≤ 1048576) (hls : ls.length ≤ 1048576) (hw : ∀ x ∈ L, x.2.length ≤ 4398046511104) (hT : Laid w0) : Calls Tryd.prog 6 #[.agg #[.string pr, .int .i64 ar, va], vb] w0 fun e w' => e = .returned (.bool true) ∧ Ext w0 w' := by
  by_cases hG : RightR ar (tp L) ∧ ColsOK ar ls
  · rcases Nat.eq_zero_or_pos ls.length with h0 | h0
    · exact counts6none pr ar L va ls vb w0 ha hL hb hn hls hw hT hG h0
    · exact counts6some pr ar L va ls vb w0 ha hL hb hn hls hw hT hG h0
  · exact counts6bad pr ar L va ls vb w0 ha hL hb hn hls hw hT hG
end Go.Proofs.YtegpcbckiehleaaDoor
