import Derived.Test.YtgfolockecjlnaaHeads0
namespace Go.Proofs.Ytgfolockecjlnaa
open Go.RowKit Go.Eng Go.OrdPure Go.HeapPure
theorem T.fa83_0 : FA Try.prog 83 0 0 := fun _ _ => by kernel_rfl
theorem T.fa83_1 : FA Try.prog 83 1 2 := fun _ _ => by kernel_rfl
theorem T.fa98_1 : FA Try.prog 98 1 1 := fun _ _ => by kernel_rfl
theorem T.na96 : NA Try.prog 96 := fun _ => by kernel_rfl
theorem T.fa98_0 : FA Try.prog 98 0 0 := fun _ _ => by kernel_rfl
theorem T.na84 : NA Try.prog 84 := fun _ => by kernel_rfl
theorem T.sl96 : SL Try.prog 96 100 5 40 (.agg #[.int .i64 ((0 : Nat) : Int), .int .i64 ((0 : Nat) : Int), .int .i64 ((0 : Nat) : Int), .int .i64 ((0 : Nat) : Int), .int .i64 ((0 : Nat) : Int)]) := sl_mk Try.underlying96 (by kernel_rfl) rfl (by decide)
theorem T.fa100_0 : FA Try.prog 100 0 0 := fun _ _ => by kernel_rfl
theorem T.ag83 : AG Try.prog 83 4 := fun _ => ⟨by kernel_rfl, by kernel_rfl⟩
theorem T.cf70 : CF Try.prog 70 := fun _ _ => by kernel_rfl
theorem T.cf60 : CF Try.prog 60 := fun _ _ => by kernel_rfl
theorem T.fa100_1 : FA Try.prog 100 1 4 := fun _ _ => by kernel_rfl
theorem T.zv83 : ZV Try.prog 83 (.agg #[.int .i64 ((0 : Nat) : Int), .int .i64 ((0 : Nat) : Int), .int .i64 ((0 : Nat) : Int), .int .i64 ((0 : Nat) : Int)]) := fun _ => by kernel_rfl
theorem T.sz83 : SZ Try.prog 83 4 := fun _ => by kernel_rfl
theorem T.fa98_2 : FA Try.prog 98 2 2 := fun _ _ => by kernel_rfl
theorem T.sz96 : SZ Try.prog 96 1 := fun _ => by kernel_rfl
theorem T.cf71 : CF Try.prog 71 := fun _ _ => by kernel_rfl
theorem T.ag100 : AG Try.prog 100 5 := fun _ => ⟨by kernel_rfl, by kernel_rfl⟩
theorem T.sz100 : SZ Try.prog 100 5 := fun _ => by kernel_rfl
theorem T.cf72 : CF Try.prog 72 := fun _ _ => by kernel_rfl

set_option maxHeartbeats 4000000 in
theorem clo60 (pb : Nat) (x y : Hd) (w0 : World) (hC : Blk w0.heap pb [.func (.func 20) #[] #[]] 35) : Calls Try.prog 60 #[.agg (enH x).toArray, .agg (enH y).toArray, .pointer (some ⟨pb, 0, none⟩)] w0 fun e w' => e = .returned (.int .i64 (cmpH x y)) ∧ Ext w0 w' := by
  have hE0 : Below w0.heap.size w0 w0 := Below.refl _ _
  have hz0 := hE0.le
  have hpl := hC.lt
  have hx1 := x.2.1.isLt
  have hy1 := y.2.1.isLt
  refine enter Try.func60 rfl 21 Try.ntmps60 rfl ?_
  refine seqK fun Q1 kn2 kr3 ke4 => ?_
  refine region ?_
  refine st_e (e_box (v := .agg #[.int .i64 x.1.1, .int .i64 x.1.2, .int .i64 ((x.2.1.val : Nat) : Int), .int .i64 ((x.2.2 : Nat) : Int)]) rfl ?_)
  intro w5 hA6
  have hx7 := hA6.ext
  have hs8 := hA6.size
  have hB9 : Blk w5.heap w0.heap.size [.int .i64 x.1.1, .int .i64 x.1.2, .int .i64 ((x.2.1.val : Nat) : Int), .int .i64 ((x.2.2 : Nat) : Int)] 83 := hA6.new
  have hB10 := hC.ext hx7
  have hE11 : Below w0.heap.size w0 w5 := hx7.e hE0 (Nat.le_refl _)
  have hz12 := hE11.le
  have hs13 := hx7.size
  refine st_e (e_box (v := .agg #[.int .i64 y.1.1, .int .i64 y.1.2, .int .i64 ((y.2.1.val : Nat) : Int), .int .i64 ((y.2.2 : Nat) : Int)]) rfl ?_)
  intro w14 hA15
  have hx16 := hA15.ext
  have hs17 := hA15.size
  have hB18 : Blk w14.heap w5.heap.size [.int .i64 y.1.1, .int .i64 y.1.2, .int .i64 ((y.2.1.val : Nat) : Int), .int .i64 ((y.2.2 : Nat) : Int)] 83 := hA15.new
  have hB19 := hB10.ext hx16
  have hB20 := hB9.ext hx16
  have hE21 : Below w0.heap.size w0 w14 := hx16.e hE11 (Nat.le_refl _)
  have hz22 := hE21.le
  have hs23 := hx16.size
  refine st_q (v := .int .i64 ((0 : Nat) : Int)) (x_assign rfl) ?_
  refine st_nil ?_
  refine kn2 _ _ ?_
  refine seqK fun Q24 kn25 kr26 ke27 => ?_
  refine seqK fun Q28 kn29 kr30 ke31 => ?_
  refine region ?_
  refine st_q (v := .func (.func 20) #[] #[]) (x_load1 T.na35 rfl (hB19.one 0 rfl)) ?_
  refine st_q (v := .pointer (some ⟨w0.heap.size, 0, none⟩)) (x_field (o := 0) T.fa83_0 rfl) ?_
  refine st_q (v := .agg #[.int .i64 x.1.1, .int .i64 x.1.2]) (x_loadA [.int .i64 x.1.1, .int .i64 x.1.2] T.ag31 rfl (hB20.cells 0 [.int .i64 x.1.1, .int .i64 x.1.2] (cells_at rfl))) ?_
  refine st_q (v := .pointer (some ⟨w5.heap.size, 0, none⟩)) (x_field (o := 0) T.fa83_0 rfl) ?_
  refine st_q (v := .agg #[.int .i64 y.1.1, .int .i64 y.1.2]) (x_loadA [.int .i64 y.1.1, .int .i64 y.1.2] T.ag31 rfl (hB18.cells 0 [.int .i64 y.1.1, .int .i64 y.1.2] (cells_at rfl))) ?_
  refine st_c (t_call [.agg #[.int .i64 x.1.1, .int .i64 x.1.2], .agg #[.int .i64 y.1.1, .int .i64 y.1.2]] T.cf20 rfl rfl) (by20 x.1 y.1 _) ?_
  rintro _ w32 ⟨rfl, hx33⟩
  refine ⟨_, rfl, ?_⟩
  have hB34 := hB19.ext hx33
  have hB35 := hB20.ext hx33
  have hB36 := hB18.ext hx33
  have hE37 : Below w0.heap.size w0 w32 := hx33.e hE21 (Nat.le_refl _)
  have hz38 := hE37.le
  have hs39 := hx33.size
  refine st_q (v := .int .i64 (byc x.1 y.1)) (x_assign rfl) ?_
  refine st_nil ?_
  refine kn29 _ _ ?_
  refine seqK fun Q40 kn41 kr42 ke43 => ?_
  refine region ?_
  refine st_q (v := .int .i64 (byc x.1 y.1)) (x_move rfl) ?_
  refine st_q (v := .bool (decide ((byc x.1 y.1) ≠ 0))) (x_neq rfl rfl) ?_
  refine st_nil ?_
  refine kn41 _ _ ?_
  refine cnd (p := (byc x.1 y.1) ≠ 0) rfl (fun h44 => ?_) (fun h44 => ?_)
  ·
    refine seqK fun Q45 kn46 kr47 ke48 => ?_
    refine region ?_
    refine st_q (v := .int .i64 (byc x.1 y.1)) (x_move rfl) ?_
    refine st_q (v := .int .i64 (byc x.1 y.1)) (x_assign rfl) ?_
    refine st_nil ?_
    refine kn46 _ _ ?_
    refine ret ?_
    refine kr26 _ _ ?_
    refine leave1 (P := Try.prog) (fn := Try.f60) (t := 5) (v := .int .i64 (byc x.1 y.1)) rfl rfl ?_
    exact ⟨by unfold cmpH; first | rw [if_neg (by assumption)] | rw [if_pos (Decidable.of_not_not (by assumption))], hE37⟩
  ·
    refine skip ?_
    refine kn25 _ _ ?_
    refine seqK fun Q49 kn50 kr51 ke52 => ?_
    refine region ?_
    refine st_q (v := .pointer (some ⟨w0.heap.size, 2, none⟩)) (x_field (o := 0) T.fa83_1 rfl) ?_
    refine st_q (v := .int .i64 ((x.2.1.val : Nat) : Int)) (x_load1 T.na3 rfl (hB35.one 2 rfl)) ?_
    refine st_q (v := .pointer (some ⟨w5.heap.size, 2, none⟩)) (x_field (o := 0) T.fa83_1 rfl) ?_
    refine st_q (v := .int .i64 ((y.2.1.val : Nat) : Int)) (x_load1 T.na3 rfl (hB36.one 2 rfl)) ?_
    refine st_q (v := .int .i64 ((((x.2.1.val : Nat) : Int) - ((y.2.1.val : Nat) : Int)))) (x_sub rfl rfl ⟨by omega, by omega⟩) ?_
    refine st_q (v := .int .i64 ((((x.2.1.val : Nat) : Int) - ((y.2.1.val : Nat) : Int)))) (x_assign rfl) ?_
    refine st_nil ?_
    refine kn50 _ _ ?_
    refine ret ?_
    refine leave1 (P := Try.prog) (fn := Try.f60) (t := 5) (v := .int .i64 ((((x.2.1.val : Nat) : Int) - ((y.2.1.val : Nat) : Int)))) rfl rfl ?_
    exact ⟨by unfold cmpH; first | rw [if_neg (by assumption)] | rw [if_pos (Decidable.of_not_not (by assumption))], hE37⟩

set_option maxHeartbeats 4000000 in
theorem told70c (pb : Nat) (w0 : World)  : Calls Try.prog 70 #[(.func (.func 60) #[] #[.pointer (some ⟨pb, 0, none⟩)])] w0 fun e w' => e = .returned (.func (.func 60) #[] #[.pointer (some ⟨pb, 0, none⟩)]) ∧ w0 = w' := by
  have hE0 : Below w0.heap.size w0 w0 := Below.refl _ _
  have hz0 := hE0.le
  refine enter Try.func70 rfl 6 Try.ntmps70 rfl ?_
  refine seqK fun Q1 kn2 kr3 ke4 => ?_
  refine region ?_
  refine st_q (v := .nilFunc) (x_assign rfl) ?_
  refine st_nil ?_
  refine kn2 _ _ ?_
  refine seqK fun Q5 kn6 kr7 ke8 => ?_
  refine seqK fun Q9 kn10 kr11 ke12 => ?_
  refine region ?_
  refine st_q (v := .func (.func 60) #[] #[.pointer (some ⟨pb, 0, none⟩)]) (x_move rfl) ?_
  refine st_q (v := .bool false) (x_eqlFnil Try.underlying84 rfl rfl) ?_
  refine st_nil ?_
  refine kn10 _ _ ?_
  refine cndF rfl ?_
  refine skip ?_
  refine kn6 _ _ ?_
  refine seqK fun Q13 kn14 kr15 ke16 => ?_
  refine region ?_
  refine st_q (v := .func (.func 60) #[] #[.pointer (some ⟨pb, 0, none⟩)]) (x_move rfl) ?_
  refine st_q (v := .func (.func 60) #[] #[.pointer (some ⟨pb, 0, none⟩)]) (x_assign rfl) ?_
  refine st_nil ?_
  refine kn14 _ _ ?_
  refine ret ?_
  refine leave1 (P := Try.prog) (fn := Try.f70) (t := 2) (v := .func (.func 60) #[] #[.pointer (some ⟨pb, 0, none⟩)]) rfl rfl ?_
  exact ⟨rfl, rfl⟩

set_option maxHeartbeats 4000000 in
theorem len62 (lo pb b nx : Nat) (v : Value) (es : List (((Int × Int) × Fin 4294967296 × Nat) × Nat)) (w0 : World) (hC : Blk w0.heap pb [.func (.func 20) #[] #[]] 35) (hH : HeapR w0.heap lo 98 100 5 (enE enH) b (.func (.func 60) #[] #[.pointer (some ⟨pb, 0, none⟩)]) v es nx) : Calls Try.prog 62 #[.pointer (some ⟨b, 0, none⟩)] w0 fun e w' => e = .returned (.int .i64 ((es.length : Nat) : Int)) ∧ Ext w0 w' := by
  have hE0 : Below w0.heap.size w0 w0 := Below.refl _ _
  have hz0 := hE0.le
  obtain ⟨hge, hB, hO, hne⟩ := hH
  obtain ⟨a, ca, rfl, hca, hca1⟩ := hO.src.form
  have hbl := hB.lt
  have hpl := hC.lt
  have hpb1 := hC.neB hB (by decide)
  have hpv := hC.neO hO (by decide)
  have hvl : ∀ k, Value.ownBlock (.slice a es.length ca) = some k → lo ≤ k ∧ k < w0.heap.size := fun k hk => hO.lt hk
  refine enter Try.func62 rfl 10 Try.ntmps62 rfl ?_
  refine seqK fun Q1 kn2 kr3 ke4 => ?_
  refine region ?_
  refine st_q (v := .int .i64 ((0 : Nat) : Int)) (x_assign rfl) ?_
  refine st_nil ?_
  refine kn2 _ _ ?_
  refine seqK fun Q5 kn6 kr7 ke8 => ?_
  refine seqK fun Q9 kn10 kr11 ke12 => ?_
  refine region ?_
  refine st_q (v := .pointer (some ⟨b, 0, none⟩)) (x_move rfl) ?_
  refine st_q (v := .bool false) (x_eqlPnil (p := some ⟨b, 0, none⟩) Try.underlying80 rfl rfl) ?_
  refine st_nil ?_
  refine kn10 _ _ ?_
  refine cndF rfl ?_
  refine skip ?_
  refine kn6 _ _ ?_
  refine seqK fun Q13 kn14 kr15 ke16 => ?_
  refine region ?_
  refine st_q (v := .pointer (some ⟨b, 0, none⟩)) (x_move rfl) ?_
  refine st_q (v := .pointer (some ⟨b, 0, none⟩)) (x_nilCheck rfl) ?_
  refine st_q (v := .pointer (some ⟨b, 1, none⟩)) (x_field (o := 0) T.fa98_1 rfl) ?_
  refine st_q (v := .slice a es.length ca) (x_load1 T.na96 rfl (hB.one 1 rfl)) ?_
  refine st_q (v := .int .i64 ((es.length : Nat) : Int)) (x_lenSl rfl Try.underlying96 rfl) ?_
  refine st_q (v := .int .i64 ((es.length : Nat) : Int)) (x_assign rfl) ?_
  refine st_nil ?_
  refine kn14 _ _ ?_
  refine ret ?_
  refine leave1 (P := Try.prog) (fn := Try.f62) (t := 2) (v := .int .i64 ((es.length : Nat) : Int)) rfl rfl ?_
  exact ⟨rfl, hE0⟩

set_option maxHeartbeats 4000000 in
theorem ahead71 (lo pb : Nat) (b nx : Nat) (v : Value) (es : List (((Int × Int) × Fin 4294967296 × Nat) × Nat)) (i k : Nat) (w0 : World) (hC : Blk w0.heap pb [.func (.func 20) #[] #[]] 35) (hH : HeapR w0.heap lo 98 100 5 (enE enH) b (.func (.func 60) #[] #[.pointer (some ⟨pb, 0, none⟩)]) v es nx) (hi : i < es.length) (hk : k < es.length) : Calls Try.prog 71 #[.pointer (some ⟨b, 0, none⟩), .int .i64 ((i : Nat) : Int), .int .i64 ((k : Nat) : Int)] w0 fun e w' => e = .returned (.bool (decide (ah cmpH (el es i) (el es k)))) ∧ Ext w0 w' := by
  have hE0 : Below w0.heap.size w0 w0 := Below.refl _ _
  have hz0 := hE0.le
  obtain ⟨hge, hB, hO, hne⟩ := hH
  obtain ⟨a, ca, rfl, hca, hca1⟩ := hO.src.form
  have hbl := hB.lt
  have hpl := hC.lt
  have hpb1 := hC.neB hB (by decide)
  have hpv := hC.neO hO (by decide)
  have hvl : ∀ k, Value.ownBlock (.slice a es.length ca) = some k → lo ≤ k ∧ k < w0.heap.size := fun k hk => hO.lt hk
  refine enter Try.func71 rfl 55 Try.ntmps71 rfl ?_
  refine seqK fun Q1 kn2 kr3 ke4 => ?_
  refine region ?_
  refine st_q (v := .bool false) (x_assign rfl) ?_
  refine st_nil ?_
  refine kn2 _ _ ?_
  refine seqK fun Q5 kn6 kr7 ke8 => ?_
  refine regionD1 [3, 8, 12, 16, 20] [0, 1, 2, 3, 5, 6, 7, 8, 9, 10, 11, 12, 13, 14, 15, 16, 17, 18, 19, 20, 22] (.one 0 (.one 1 (.one 2 (.one 3 (.one 5 (.one 6 (.one 7 (.one 8 (.one 9 (.one 10 (.one 11 (.one 12 (.one 13 (.one 14 (.one 15 (.one 16 (.one 17 (.one 18 (.one 19 (.one 20 (.one 4 (.one 21 (.one 22 .done))))))))))))))))))))))) (by kernel_rfl) (by kernel_rfl) ?_
  intro w9 hx10 hs11
  have hB12 := hC.ext hx10
  have hB13 := hB.ext hx10
  have hF14 := hO.ext hx10
  have hE15 : Below w0.heap.size w0 w9 := hx10.e hE0 (Nat.le_refl _)
  have hz16 := hE15.le
  have hs17 := hx10.size
  have hS18 : Ext w9 w9 := Below.refl _ _
  refine d_q (v := .pointer (some ⟨b, 0, none⟩)) rfl rfl (fun _ => x_move rfl) ?_
  refine d_q (v := .pointer (some ⟨b, 0, none⟩)) rfl rfl (fun _ => x_nilCheck rfl) ?_
  refine d_q (v := .pointer (some ⟨b, 0, none⟩)) rfl rfl (fun _ => x_field (o := 0) T.fa98_0 rfl) ?_
  refine d_l (v := .func (.func 60) #[] #[.pointer (some ⟨pb, 0, none⟩)]) rfl rfl rfl (fun v20 hw19 => x_load1 T.na84 rfl ((hB13.one 0 rfl).ext hw19)) ?_
  refine d_q (v := .pointer (some ⟨b, 0, none⟩)) rfl rfl (fun _ => x_move rfl) ?_
  refine d_q (v := .pointer (some ⟨b, 0, none⟩)) rfl rfl (fun _ => x_nilCheck rfl) ?_
  refine d_q (v := .pointer (some ⟨b, 1, none⟩)) rfl rfl (fun _ => x_field (o := 0) T.fa98_1 rfl) ?_
  refine d_l (v := .slice a es.length ca) rfl rfl rfl (fun v22 hw21 => x_load1 T.na96 rfl ((hB13.one 1 rfl).ext hw21)) ?_
  refine d_q (v := .int .i64 ((i : Nat) : Int)) rfl rfl (fun _ => x_move rfl) ?_
  obtain ⟨b23, o24, ha25, hc26⟩ := hF14.src.at (by omega)
  refine d_q (v := .pointer (some ⟨b23, o24 + i * 5, none⟩)) rfl rfl (fun _ => x_index' T.sl96 rfl ha25 rfl (by omega)) ?_
  refine d_q (v := .pointer (some ⟨b23, o24 + i * 5, none⟩)) rfl rfl (fun _ => x_field (o := o24 + i * 5) T.fa100_0 rfl) ?_
  refine d_l (v := .agg #[.int .i64 ((el es i).1.1.1), .int .i64 ((el es i).1.1.2), .int .i64 (((el es i).1.2.1.val : Nat) : Int), .int .i64 (((el es i).1.2.2 : Nat) : Int)]) rfl rfl rfl (fun v28 hw27 => x_loadA [.int .i64 ((el es i).1.1.1), .int .i64 ((el es i).1.1.2), .int .i64 (((el es i).1.2.1.val : Nat) : Int), .int .i64 (((el es i).1.2.2 : Nat) : Int)] T.ag83 rfl (((hc26.elem (enE_len enH_len) (i := i) (by omega)).sub 0 [.int .i64 ((el es i).1.1.1), .int .i64 ((el es i).1.1.2), .int .i64 (((el es i).1.2.1.val : Nat) : Int), .int .i64 (((el es i).1.2.2 : Nat) : Int)] (cells_at rfl)).ext hw27)) ?_
  refine d_q (v := .pointer (some ⟨b, 0, none⟩)) rfl rfl (fun _ => x_move rfl) ?_
  refine d_q (v := .pointer (some ⟨b, 0, none⟩)) rfl rfl (fun _ => x_nilCheck rfl) ?_
  refine d_q (v := .pointer (some ⟨b, 1, none⟩)) rfl rfl (fun _ => x_field (o := 0) T.fa98_1 rfl) ?_
  refine d_l (v := .slice a es.length ca) rfl rfl rfl (fun v30 hw29 => x_load1 T.na96 rfl ((hB13.one 1 rfl).ext hw29)) ?_
  refine d_q (v := .int .i64 ((k : Nat) : Int)) rfl rfl (fun _ => x_move rfl) ?_
  obtain ⟨b31, o32, ha33, hc34⟩ := hF14.src.at (by omega)
  refine d_q (v := .pointer (some ⟨b31, o32 + k * 5, none⟩)) rfl rfl (fun _ => x_index' T.sl96 rfl ha33 rfl (by omega)) ?_
  refine d_q (v := .pointer (some ⟨b31, o32 + k * 5, none⟩)) rfl rfl (fun _ => x_field (o := o32 + k * 5) T.fa100_0 rfl) ?_
  refine d_l (v := .agg #[.int .i64 ((el es k).1.1.1), .int .i64 ((el es k).1.1.2), .int .i64 (((el es k).1.2.1.val : Nat) : Int), .int .i64 (((el es k).1.2.2 : Nat) : Int)]) rfl rfl rfl (fun v36 hw35 => x_loadA [.int .i64 ((el es k).1.1.1), .int .i64 ((el es k).1.1.2), .int .i64 (((el es k).1.2.1.val : Nat) : Int), .int .i64 (((el es k).1.2.2 : Nat) : Int)] T.ag83 rfl (((hc34.elem (enE_len enH_len) (i := k) (by omega)).sub 0 [.int .i64 ((el es k).1.1.1), .int .i64 ((el es k).1.1.2), .int .i64 (((el es k).1.2.1.val : Nat) : Int), .int .i64 (((el es k).1.2.2 : Nat) : Int)] (cells_at rfl)).ext hw35)) ?_
  refine d_e (by decide) (d_c' rfl rfl (t_call [.func (.func 60) #[] #[.pointer (some ⟨pb, 0, none⟩)]] T.cf70 rfl rfl) (told70c pb _) ?_)
  rintro _ _ ⟨rfl, rfl⟩
  refine ⟨_, rfl, ?_⟩
  have hS37 := hS18
  refine ⟨fun _ => hS37, ?_⟩
  refine d_e (by decide) (d_c' rfl rfl (t_call [.agg #[.int .i64 ((el es i).1.1.1), .int .i64 ((el es i).1.1.2), .int .i64 (((el es i).1.2.1.val : Nat) : Int), .int .i64 (((el es i).1.2.2 : Nat) : Int)], .agg #[.int .i64 ((el es k).1.1.1), .int .i64 ((el es k).1.1.2), .int .i64 (((el es k).1.2.1.val : Nat) : Int), .int .i64 (((el es k).1.2.2 : Nat) : Int)], .pointer (some ⟨pb, 0, none⟩)] T.cf60 rfl rfl) (clo60 pb (el es i).1 (el es k).1 _ hB12) ?_)
  rintro _ w38 ⟨rfl, hx39⟩
  refine ⟨_, rfl, ?_⟩
  have hB40 := hB12.ext hx39
  have hB41 := hB13.ext hx39
  have hF42 := hF14.ext hx39
  have hF43 := hc26.ext hx39
  have hF44 := hc34.ext hx39
  have hE45 : Below w0.heap.size w0 w38 := hx39.e hE15 (Nat.le_refl _)
  have hz46 := hE45.le
  have hs47 := hx39.size
  have hS48 := hS37.trans (hx39.mono hS37.size)
  refine ⟨fun _ => hS48, ?_⟩
  refine d_q (v := .int .i64 (cmpH (el es i).1 (el es k).1)) rfl rfl (fun _ => x_assign rfl) ?_
  refine d_done ?_
  refine kn6 _ _ ?_
  refine seqK fun Q49 kn50 kr51 ke52 => ?_
  refine regionD1 [9, 13, 17, 21] [0, 1, 2, 3, 4, 5, 6, 7, 8, 9, 10, 11, 12, 13, 14, 15, 16, 17, 18, 19, 20, 21, 22, 23, 24, 25] (.one 0 (.one 1 (.one 2 (.one 3 (.one 4 (.one 5 (.one 6 (.one 7 (.one 8 (.one 9 (.one 10 (.one 11 (.one 12 (.one 13 (.one 14 (.one 15 (.one 16 (.one 17 (.one 18 (.one 19 (.one 20 (.one 21 (.one 22 (.one 23 (.one 24 (.one 25 .done)))))))))))))))))))))))))) (by kernel_rfl) (by kernel_rfl) ?_
  intro w53 hx54 hs55
  have hB56 := hB40.ext hx54
  have hB57 := hB41.ext hx54
  have hF58 := hF42.ext hx54
  have hF59 := hF43.ext hx54
  have hF60 := hF44.ext hx54
  have hE61 : Below w0.heap.size w0 w53 := hx54.e hE45 (Nat.le_refl _)
  have hz62 := hE61.le
  have hs63 := hx54.size
  have hS64 : Ext w53 w53 := Below.refl _ _
  refine d_q (v := .int .i64 (cmpH (el es i).1 (el es k).1)) rfl rfl (fun _ => x_move rfl) ?_
  refine d_q (v := .bool (decide ((cmpH (el es i).1 (el es k).1) < 0))) rfl rfl (fun _ => x_lss rfl rfl) ?_
  refine d_if rfl rfl (p := (cmpH (el es i).1 (el es k).1) < 0) (fun _ => x_move rfl) (fun h65 => ?_) (fun h65 => ?_)
  ·
    refine d_gn (j := 2) (t := 32) rfl rfl rfl rfl (by decide) rfl ?_
    refine d_gn (j := 2) (t := 32) rfl rfl rfl rfl (by decide) rfl ?_
    refine d_gn (j := 2) (t := 32) rfl rfl rfl rfl (by decide) rfl ?_
    refine d_gu (j := 5) (t := 35) rfl rfl rfl rfl (by decide) ?_
    refine d_gu (j := 5) (t := 35) rfl rfl rfl rfl (by decide) ?_
    refine d_gu (j := 5) (t := 35) rfl rfl rfl rfl (by decide) ?_
    refine d_gu (j := 5) (t := 35) rfl rfl rfl rfl (by decide) ?_
    refine d_gu (j := 5) (t := 35) rfl rfl rfl rfl (by decide) ?_
    refine d_gu (j := 5) (t := 35) rfl rfl rfl rfl (by decide) ?_
    refine d_gu (j := 5) (t := 35) rfl rfl rfl rfl (by decide) ?_
    refine d_gu (j := 5) (t := 35) rfl rfl rfl rfl (by decide) ?_
    refine d_gu (j := 5) (t := 35) rfl rfl rfl rfl (by decide) ?_
    refine d_gu (j := 5) (t := 35) rfl rfl rfl rfl (by decide) ?_
    refine d_gu (j := 5) (t := 35) rfl rfl rfl rfl (by decide) ?_
    refine d_gu (j := 5) (t := 35) rfl rfl rfl rfl (by decide) ?_
    refine d_gu (j := 5) (t := 35) rfl rfl rfl rfl (by decide) ?_
    refine d_gu (j := 5) (t := 35) rfl rfl rfl rfl (by decide) ?_
    refine d_gu (j := 5) (t := 35) rfl rfl rfl rfl (by decide) ?_
    refine d_gu (j := 5) (t := 35) rfl rfl rfl rfl (by decide) ?_
    refine d_gu (j := 5) (t := 35) rfl rfl rfl rfl (by decide) ?_
    refine d_gn (j := 2) (t := 32) rfl rfl rfl rfl (by decide) rfl ?_
    refine d_q (v := .bool true) rfl rfl (fun _ => x_pickT rfl rfl) ?_
    refine d_q (v := .bool true) rfl rfl (fun _ => x_assign rfl) ?_
    refine d_done ?_
    refine kn50 _ _ ?_
    refine ret ?_
    refine leave1 (P := Try.prog) (fn := Try.f71) (t := 6) (v := .bool true) rfl rfl ?_
    first | exact ⟨by rw [ah_t (by assumption)], hE61⟩ | exact ⟨by rw [ah_n (by assumption) (by assumption)], hE61⟩ | exact ⟨by rw [ah_f (by assumption) (by assumption)], hE61⟩
  ·
    refine d_gq (v := .int .i64 (cmpH (el es i).1 (el es k).1)) (j := 2) (t := 32) rfl rfl rfl rfl (by decide) (fun _ => x_move rfl) ?_
    refine d_gq (v := .bool (decide ((cmpH (el es i).1 (el es k).1) = 0))) (j := 2) (t := 32) rfl rfl rfl rfl (by decide) (fun _ => x_eql rfl rfl) ?_
    refine d_gif (j := 2) (t := 32) rfl rfl rfl rfl (by decide) (p := (cmpH (el es i).1 (el es k).1) = 0) (fun _ => x_move rfl) (fun h66 => ?_) (fun h66 => ?_)
    ·
      refine d_gq (v := .pointer (some ⟨b, 0, none⟩)) (j := 5) (t := 35) rfl rfl rfl rfl (by decide) (fun _ => x_move rfl) ?_
      refine d_gq (v := .pointer (some ⟨b, 0, none⟩)) (j := 5) (t := 35) rfl rfl rfl rfl (by decide) (fun _ => x_nilCheck rfl) ?_
      refine d_gq (v := .pointer (some ⟨b, 1, none⟩)) (j := 5) (t := 35) rfl rfl rfl rfl (by decide) (fun _ => x_field (o := 0) T.fa98_1 rfl) ?_
      refine d_gl (v := .slice a es.length ca) (j := 5) (t := 35) rfl rfl rfl rfl rfl (by decide) (fun v68 hw67 => x_load1 T.na96 rfl ((hB57.one 1 rfl).ext hw67)) ?_
      refine d_gq (v := .int .i64 ((i : Nat) : Int)) (j := 5) (t := 35) rfl rfl rfl rfl (by decide) (fun _ => x_move rfl) ?_
      obtain ⟨b69, o70, ha71, hc72⟩ := hF58.src.at (by omega)
      refine d_gq (v := .pointer (some ⟨b69, o70 + i * 5, none⟩)) (j := 5) (t := 35) rfl rfl rfl rfl (by decide) (fun _ => x_index' T.sl96 rfl ha71 rfl (by omega)) ?_
      refine d_gq (v := .pointer (some ⟨b69, o70 + i * 5 + 4, none⟩)) (j := 5) (t := 35) rfl rfl rfl rfl (by decide) (fun _ => x_field (o := o70 + i * 5) T.fa100_1 rfl) ?_
      refine d_gl (v := .int .i64 (((el es i).2 : Nat) : Int)) (j := 5) (t := 35) rfl rfl rfl rfl rfl (by decide) (fun v74 hw73 => x_load1 T.na3 rfl (((hc72.elem (enE_len enH_len) (i := i) (by omega)).fld 4 rfl).ext hw73)) ?_
      refine d_gq (v := .pointer (some ⟨b, 0, none⟩)) (j := 5) (t := 35) rfl rfl rfl rfl (by decide) (fun _ => x_move rfl) ?_
      refine d_gq (v := .pointer (some ⟨b, 0, none⟩)) (j := 5) (t := 35) rfl rfl rfl rfl (by decide) (fun _ => x_nilCheck rfl) ?_
      refine d_gq (v := .pointer (some ⟨b, 1, none⟩)) (j := 5) (t := 35) rfl rfl rfl rfl (by decide) (fun _ => x_field (o := 0) T.fa98_1 rfl) ?_
      refine d_gl (v := .slice a es.length ca) (j := 5) (t := 35) rfl rfl rfl rfl rfl (by decide) (fun v76 hw75 => x_load1 T.na96 rfl ((hB57.one 1 rfl).ext hw75)) ?_
      refine d_gq (v := .int .i64 ((k : Nat) : Int)) (j := 5) (t := 35) rfl rfl rfl rfl (by decide) (fun _ => x_move rfl) ?_
      obtain ⟨b77, o78, ha79, hc80⟩ := hF58.src.at (by omega)
      refine d_gq (v := .pointer (some ⟨b77, o78 + k * 5, none⟩)) (j := 5) (t := 35) rfl rfl rfl rfl (by decide) (fun _ => x_index' T.sl96 rfl ha79 rfl (by omega)) ?_
      refine d_gq (v := .pointer (some ⟨b77, o78 + k * 5 + 4, none⟩)) (j := 5) (t := 35) rfl rfl rfl rfl (by decide) (fun _ => x_field (o := o78 + k * 5) T.fa100_1 rfl) ?_
      refine d_gl (v := .int .i64 (((el es k).2 : Nat) : Int)) (j := 5) (t := 35) rfl rfl rfl rfl rfl (by decide) (fun v82 hw81 => x_load1 T.na3 rfl (((hc80.elem (enE_len enH_len) (i := k) (by omega)).fld 4 rfl).ext hw81)) ?_
      refine d_gq (v := .bool (decide (((el es i).2) < ((el es k).2)))) (j := 5) (t := 35) rfl rfl rfl rfl (by decide) (fun _ => x_lssN rfl rfl) ?_
      refine d_gq (v := .bool (decide (((el es i).2) < ((el es k).2)))) (j := 2) (t := 32) rfl rfl rfl rfl (by decide) (fun _ => x_pickT rfl rfl) ?_
      refine d_q (v := .bool (decide (((el es i).2) < ((el es k).2)))) rfl rfl (fun _ => x_pickF rfl rfl) ?_
      refine d_q (v := .bool (decide (((el es i).2) < ((el es k).2)))) rfl rfl (fun _ => x_assign rfl) ?_
      refine d_done ?_
      refine kn50 _ _ ?_
      refine ret ?_
      refine leave1 (P := Try.prog) (fn := Try.f71) (t := 6) (v := .bool (decide (((el es i).2) < ((el es k).2)))) rfl rfl ?_
      first | exact ⟨by rw [ah_t (by assumption)], hE61⟩ | exact ⟨by rw [ah_n (by assumption) (by assumption)], hE61⟩ | exact ⟨by rw [ah_f (by assumption) (by assumption)], hE61⟩
    ·
      refine d_gn (j := 5) (t := 35) rfl rfl rfl rfl (by decide) rfl ?_
      refine d_gn (j := 5) (t := 35) rfl rfl rfl rfl (by decide) rfl ?_
      refine d_gn (j := 5) (t := 35) rfl rfl rfl rfl (by decide) rfl ?_
      refine d_gn (j := 5) (t := 35) rfl rfl rfl rfl (by decide) rfl ?_
      refine d_gn (j := 5) (t := 35) rfl rfl rfl rfl (by decide) rfl ?_
      refine d_gn (j := 5) (t := 35) rfl rfl rfl rfl (by decide) rfl ?_
      refine d_gn (j := 5) (t := 35) rfl rfl rfl rfl (by decide) rfl ?_
      refine d_gn (j := 5) (t := 35) rfl rfl rfl rfl (by decide) rfl ?_
      refine d_gn (j := 5) (t := 35) rfl rfl rfl rfl (by decide) rfl ?_
      refine d_gn (j := 5) (t := 35) rfl rfl rfl rfl (by decide) rfl ?_
      refine d_gn (j := 5) (t := 35) rfl rfl rfl rfl (by decide) rfl ?_
      refine d_gn (j := 5) (t := 35) rfl rfl rfl rfl (by decide) rfl ?_
      refine d_gn (j := 5) (t := 35) rfl rfl rfl rfl (by decide) rfl ?_
      refine d_gn (j := 5) (t := 35) rfl rfl rfl rfl (by decide) rfl ?_
      refine d_gn (j := 5) (t := 35) rfl rfl rfl rfl (by decide) rfl ?_
      refine d_gn (j := 5) (t := 35) rfl rfl rfl rfl (by decide) rfl ?_
      refine d_gn (j := 5) (t := 35) rfl rfl rfl rfl (by decide) rfl ?_
      refine d_gq (v := .bool false) (j := 2) (t := 32) rfl rfl rfl rfl (by decide) (fun _ => x_pickF rfl rfl) ?_
      refine d_q (v := .bool false) rfl rfl (fun _ => x_pickF rfl rfl) ?_
      refine d_q (v := .bool false) rfl rfl (fun _ => x_assign rfl) ?_
      refine d_done ?_
      refine kn50 _ _ ?_
      refine ret ?_
      refine leave1 (P := Try.prog) (fn := Try.f71) (t := 6) (v := .bool false) rfl rfl ?_
      first | exact ⟨by rw [ah_t (by assumption)], hE61⟩ | exact ⟨by rw [ah_n (by assumption) (by assumption)], hE61⟩ | exact ⟨by rw [ah_f (by assumption) (by assumption)], hE61⟩

set_option maxHeartbeats 4000000 in
theorem peek72_0 (lo pb b nx : Nat) (v : Value) (es : List (((Int × Int) × Fin 4294967296 × Nat) × Nat)) (w0 : World) (hC : Blk w0.heap pb [.func (.func 20) #[] #[]] 35) (hH : HeapR w0.heap lo 98 100 5 (enE enH) b (.func (.func 60) #[] #[.pointer (some ⟨pb, 0, none⟩)]) v es nx) (hz : es.length = 0) : Calls Try.prog 72 #[.pointer (some ⟨b, 0, none⟩)] w0 fun e w' => e = .returned (.tuple #[.agg #[.int .i64 ((0 : Nat) : Int), .int .i64 ((0 : Nat) : Int), .int .i64 ((0 : Nat) : Int), .int .i64 ((0 : Nat) : Int)], .bool false]) ∧ Ext w0 w' := by
  have hE0 : Below w0.heap.size w0 w0 := Below.refl _ _
  have hz0 := hE0.le
  obtain ⟨hge, hB, hO, hne⟩ := hH
  obtain ⟨a, ca, rfl, hca, hca1⟩ := hO.src.form
  have hbl := hB.lt
  have hpl := hC.lt
  have hpb1 := hC.neB hB (by decide)
  have hpv := hC.neO hO (by decide)
  have hvl : ∀ k, Value.ownBlock (.slice a es.length ca) = some k → lo ≤ k ∧ k < w0.heap.size := fun k hk => hO.lt hk
  refine enter Try.func72 rfl 23 Try.ntmps72 rfl ?_
  refine seqK fun Q1 kn2 kr3 ke4 => ?_
  refine region ?_
  refine st_e (e_alloc T.zv83 ?_)
  intro w5 hA6
  have hx7 := hA6.ext
  have hs8 := hA6.size
  have hB9 : Blk w5.heap w0.heap.size [.int .i64 ((0 : Nat) : Int), .int .i64 ((0 : Nat) : Int), .int .i64 ((0 : Nat) : Int), .int .i64 ((0 : Nat) : Int)] 83 := hA6.new
  have hB10 := hC.ext hx7
  have hB11 := hB.ext hx7
  have hF12 := hO.ext hx7
  have hE13 : Below w0.heap.size w0 w5 := hx7.e hE0 (Nat.le_refl _)
  have hz14 := hE13.le
  have hs15 := hx7.size
  refine st_q (v := .bool false) (x_assign rfl) ?_
  refine st_nil ?_
  refine kn2 _ _ ?_
  refine seqK fun Q16 kn17 kr18 ke19 => ?_
  refine seqK fun Q20 kn21 kr22 ke23 => ?_
  refine region ?_
  refine st_q (v := .pointer (some ⟨b, 0, none⟩)) (x_move rfl) ?_
  refine st_q (v := .bool false) (x_eqlPnil (p := some ⟨b, 0, none⟩) Try.underlying80 rfl rfl) ?_
  refine st_q (v := .bool false) (x_move rfl) ?_
  refine st_gq 2 7 rfl rfl (by decide) ?_
  refine st_q (v := .pointer (some ⟨b, 0, none⟩)) (x_move rfl) ?_
  refine st_gq 2 7 rfl rfl (by decide) ?_
  refine st_q (v := .pointer (some ⟨b, 0, none⟩)) (x_nilCheck rfl) ?_
  refine st_gq 2 7 rfl rfl (by decide) ?_
  refine st_q (v := .pointer (some ⟨b, 1, none⟩)) (x_field (o := 0) T.fa98_1 rfl) ?_
  refine st_gq 2 7 rfl rfl (by decide) ?_
  refine st_q (v := .slice a es.length ca) (x_load1 T.na96 rfl (hB11.one 1 rfl)) ?_
  refine st_gq 2 7 rfl rfl (by decide) ?_
  refine st_q (v := .int .i64 ((es.length : Nat) : Int)) (x_lenSl rfl Try.underlying96 rfl) ?_
  refine st_gq 2 7 rfl rfl (by decide) ?_
  refine st_q (v := .bool (decide (es.length = 0))) (x_eqlN rfl rfl) ?_
  refine st_q (v := .bool (decide (es.length = 0))) (x_pickF rfl rfl) ?_
  refine st_nil ?_
  refine kn21 _ _ ?_
  refine cnd (p := es.length = 0) rfl (fun h24 => ?_) (fun h24 => ?_)
  ·
    refine seqK fun Q25 kn26 kr27 ke28 => ?_
    refine region ?_
    refine st_e (e_alloc T.zv83 ?_)
    intro w29 hA30
    have hx31 := hA30.ext
    have hs32 := hA30.size
    have hB33 : Blk w29.heap w5.heap.size [.int .i64 ((0 : Nat) : Int), .int .i64 ((0 : Nat) : Int), .int .i64 ((0 : Nat) : Int), .int .i64 ((0 : Nat) : Int)] 83 := hA30.new
    have hB34 := hB10.ext hx31
    have hB35 := hB11.ext hx31
    have hB36 := hB9.ext hx31
    have hF37 := hF12.ext hx31
    have hE38 : Below w0.heap.size w0 w29 := hx31.e hE13 (Nat.le_refl _)
    have hz39 := hE38.le
    have hs40 := hx31.size
    refine st_nil ?_
    refine kn26 _ _ ?_
    refine seqK fun Q41 kn42 kr43 ke44 => ?_
    refine region ?_
    refine st_q (v := .agg #[.int .i64 ((0 : Nat) : Int), .int .i64 ((0 : Nat) : Int), .int .i64 ((0 : Nat) : Int), .int .i64 ((0 : Nat) : Int)]) (x_loadA [.int .i64 ((0 : Nat) : Int), .int .i64 ((0 : Nat) : Int), .int .i64 ((0 : Nat) : Int), .int .i64 ((0 : Nat) : Int)] T.ag83 rfl (hB33.cells 0 [.int .i64 ((0 : Nat) : Int), .int .i64 ((0 : Nat) : Int), .int .i64 ((0 : Nat) : Int), .int .i64 ((0 : Nat) : Int)] (cells_at rfl))) ?_
    refine st_s (e_st (v := .agg #[.int .i64 ((0 : Nat) : Int), .int .i64 ((0 : Nat) : Int), .int .i64 ((0 : Nat) : Int), .int .i64 ((0 : Nat) : Int)]) T.sz83 rfl rfl hB36 (by simp [Value.cells]) (by rfl) ?_)
    intro w45 hP46
    have hB47 : Blk w45.heap w0.heap.size [.int .i64 ((0 : Nat) : Int), .int .i64 ((0 : Nat) : Int), .int .i64 ((0 : Nat) : Int), .int .i64 ((0 : Nat) : Int)] 83 := hP46.new
    have hs48 := hP46.size
    have hB49 := hB34.pt hP46 (by omega)
    have hB50 := hB35.pt hP46 (by omega)
    have hB51 := hB33.pt hP46 (by omega)
    have hF52 := hF37.pt hP46 (by intro e; have := hvl _ e; omega)
    have hE53 : Below w0.heap.size w0 w45 := hP46.below hE38 (by omega)
    have hz54 := hE53.le
    refine st_q (v := .bool false) (x_assign rfl) ?_
    refine st_nil ?_
    refine kn42 _ _ ?_
    refine ret ?_
    refine kr18 _ _ ?_
    refine leaveCT (P := Try.prog) (fn := Try.f72) (t := 2) (u := 3) (T := 83) (b := w0.heap.size) (o := 0) (cs := [.int .i64 ((0 : Nat) : Int), .int .i64 ((0 : Nat) : Int), .int .i64 ((0 : Nat) : Int), .int .i64 ((0 : Nat) : Int)]) (v := .bool false) rfl T.ag83 rfl (hB47.cells 0 [.int .i64 ((0 : Nat) : Int), .int .i64 ((0 : Nat) : Int), .int .i64 ((0 : Nat) : Int), .int .i64 ((0 : Nat) : Int)] (cells_at rfl)) rfl ?_
    exact ⟨rfl, hE53⟩
  ·
    exact absurd h24 (by omega)

set_option maxHeartbeats 4000000 in
theorem peek72_1 (lo pb b nx : Nat) (v : Value) (es : List (((Int × Int) × Fin 4294967296 × Nat) × Nat)) (w0 : World) (hC : Blk w0.heap pb [.func (.func 20) #[] #[]] 35) (hH : HeapR w0.heap lo 98 100 5 (enE enH) b (.func (.func 60) #[] #[.pointer (some ⟨pb, 0, none⟩)]) v es nx) (hz : 0 < es.length) : Calls Try.prog 72 #[.pointer (some ⟨b, 0, none⟩)] w0 fun e w' => e = .returned (.tuple #[.agg (enH (el es 0).1).toArray, .bool true]) ∧ Ext w0 w' := by
  have hE0 : Below w0.heap.size w0 w0 := Below.refl _ _
  have hz0 := hE0.le
  obtain ⟨hge, hB, hO, hne⟩ := hH
  obtain ⟨a, ca, rfl, hca, hca1⟩ := hO.src.form
  have hbl := hB.lt
  have hpl := hC.lt
  have hpb1 := hC.neB hB (by decide)
  have hpv := hC.neO hO (by decide)
  have hvl : ∀ k, Value.ownBlock (.slice a es.length ca) = some k → lo ≤ k ∧ k < w0.heap.size := fun k hk => hO.lt hk
  refine enter Try.func72 rfl 23 Try.ntmps72 rfl ?_
  refine seqK fun Q1 kn2 kr3 ke4 => ?_
  refine region ?_
  refine st_e (e_alloc T.zv83 ?_)
  intro w5 hA6
  have hx7 := hA6.ext
  have hs8 := hA6.size
  have hB9 : Blk w5.heap w0.heap.size [.int .i64 ((0 : Nat) : Int), .int .i64 ((0 : Nat) : Int), .int .i64 ((0 : Nat) : Int), .int .i64 ((0 : Nat) : Int)] 83 := hA6.new
  have hB10 := hC.ext hx7
  have hB11 := hB.ext hx7
  have hF12 := hO.ext hx7
  have hE13 : Below w0.heap.size w0 w5 := hx7.e hE0 (Nat.le_refl _)
  have hz14 := hE13.le
  have hs15 := hx7.size
  refine st_q (v := .bool false) (x_assign rfl) ?_
  refine st_nil ?_
  refine kn2 _ _ ?_
  refine seqK fun Q16 kn17 kr18 ke19 => ?_
  refine seqK fun Q20 kn21 kr22 ke23 => ?_
  refine region ?_
  refine st_q (v := .pointer (some ⟨b, 0, none⟩)) (x_move rfl) ?_
  refine st_q (v := .bool false) (x_eqlPnil (p := some ⟨b, 0, none⟩) Try.underlying80 rfl rfl) ?_
  refine st_q (v := .bool false) (x_move rfl) ?_
  refine st_gq 2 7 rfl rfl (by decide) ?_
  refine st_q (v := .pointer (some ⟨b, 0, none⟩)) (x_move rfl) ?_
  refine st_gq 2 7 rfl rfl (by decide) ?_
  refine st_q (v := .pointer (some ⟨b, 0, none⟩)) (x_nilCheck rfl) ?_
  refine st_gq 2 7 rfl rfl (by decide) ?_
  refine st_q (v := .pointer (some ⟨b, 1, none⟩)) (x_field (o := 0) T.fa98_1 rfl) ?_
  refine st_gq 2 7 rfl rfl (by decide) ?_
  refine st_q (v := .slice a es.length ca) (x_load1 T.na96 rfl (hB11.one 1 rfl)) ?_
  refine st_gq 2 7 rfl rfl (by decide) ?_
  refine st_q (v := .int .i64 ((es.length : Nat) : Int)) (x_lenSl rfl Try.underlying96 rfl) ?_
  refine st_gq 2 7 rfl rfl (by decide) ?_
  refine st_q (v := .bool (decide (es.length = 0))) (x_eqlN rfl rfl) ?_
  refine st_q (v := .bool (decide (es.length = 0))) (x_pickF rfl rfl) ?_
  refine st_nil ?_
  refine kn21 _ _ ?_
  refine cnd (p := es.length = 0) rfl (fun h24 => ?_) (fun h24 => ?_)
  ·
    exact absurd h24 (by omega)
  ·
    refine skip ?_
    refine kn17 _ _ ?_
    refine seqK fun Q25 kn26 kr27 ke28 => ?_
    refine region ?_
    refine st_q (v := .pointer (some ⟨b, 0, none⟩)) (x_move rfl) ?_
    refine st_q (v := .pointer (some ⟨b, 0, none⟩)) (x_nilCheck rfl) ?_
    refine st_q (v := .pointer (some ⟨b, 1, none⟩)) (x_field (o := 0) T.fa98_1 rfl) ?_
    refine st_q (v := .slice a es.length ca) (x_load1 T.na96 rfl (hB11.one 1 rfl)) ?_
    obtain ⟨b29, o30, ha31, hc32⟩ := hF12.src.at (by omega)
    refine st_q (v := .pointer (some ⟨b29, o30 + 0 * 5, none⟩)) (x_index' T.sl96 rfl ha31 rfl (by omega)) ?_
    refine st_q (v := .pointer (some ⟨b29, o30 + 0 * 5, none⟩)) (x_field (o := o30 + 0 * 5) T.fa100_0 rfl) ?_
    refine st_q (v := .agg #[.int .i64 ((el es 0).1.1.1), .int .i64 ((el es 0).1.1.2), .int .i64 (((el es 0).1.2.1.val : Nat) : Int), .int .i64 (((el es 0).1.2.2 : Nat) : Int)]) (x_loadA [.int .i64 ((el es 0).1.1.1), .int .i64 ((el es 0).1.1.2), .int .i64 (((el es 0).1.2.1.val : Nat) : Int), .int .i64 (((el es 0).1.2.2 : Nat) : Int)] T.ag83 rfl ((hc32.elem (enE_len enH_len) (i := 0) (by omega)).sub 0 [.int .i64 ((el es 0).1.1.1), .int .i64 ((el es 0).1.1.2), .int .i64 (((el es 0).1.2.1.val : Nat) : Int), .int .i64 (((el es 0).1.2.2 : Nat) : Int)] (cells_at rfl))) ?_
    refine st_s (e_st (v := .agg #[.int .i64 ((el es 0).1.1.1), .int .i64 ((el es 0).1.1.2), .int .i64 (((el es 0).1.2.1.val : Nat) : Int), .int .i64 (((el es 0).1.2.2 : Nat) : Int)]) T.sz83 rfl rfl hB9 (by simp [Value.cells]) (by rfl) ?_)
    intro w33 hP34
    have hB35 : Blk w33.heap w0.heap.size [.int .i64 ((el es 0).1.1.1), .int .i64 ((el es 0).1.1.2), .int .i64 (((el es 0).1.2.1.val : Nat) : Int), .int .i64 (((el es 0).1.2.2 : Nat) : Int)] 83 := hP34.new
    have hs36 := hP34.size
    have hB37 := hB10.pt hP34 (by omega)
    have hB38 := hB11.pt hP34 (by omega)
    have hF39 := hF12.pt hP34 (by intro e; have := hvl _ e; omega)
    have hE41 : Below w0.heap.size w0 w33 := hP34.below hE13 (by omega)
    have hz42 := hE41.le
    refine st_q (v := .bool true) (x_assign rfl) ?_
    refine st_nil ?_
    refine kn26 _ _ ?_
    refine ret ?_
    refine leaveCT (P := Try.prog) (fn := Try.f72) (t := 2) (u := 3) (T := 83) (b := w0.heap.size) (o := 0) (cs := [.int .i64 ((el es 0).1.1.1), .int .i64 ((el es 0).1.1.2), .int .i64 (((el es 0).1.2.1.val : Nat) : Int), .int .i64 (((el es 0).1.2.2 : Nat) : Int)]) (v := .bool true) rfl T.ag83 rfl (hB35.cells 0 [.int .i64 ((el es 0).1.1.1), .int .i64 ((el es 0).1.1.2), .int .i64 (((el es 0).1.2.1.val : Nat) : Int), .int .i64 (((el es 0).1.2.2 : Nat) : Int)] (cells_at rfl)) rfl ?_
    exact ⟨rfl, hE41⟩

set_option maxHeartbeats 4000000 in
theorem push61 (lo pb : Nat) (b nx : Nat) (v : Value) (es : List (((Int × Int) × Fin 4294967296 × Nat) × Nat)) (z : (Int × Int) × Fin 4294967296 × Nat) (w0 : World) (hC : Blk w0.heap pb [.func (.func 20) #[] #[]] 35) (hH : HeapR w0.heap lo 98 100 5 (enE enH) b (.func (.func 60) #[] #[.pointer (some ⟨pb, 0, none⟩)]) v es nx) (hlen : es.length ≤ 1099511627776) (hnx : nx ≤ 4611686018427387904) (hhp : HP (ah cmpH) es) : Calls Try.prog 61 #[.pointer (some ⟨b, 0, none⟩), .agg (enH z).toArray] w0 fun e w' => e = .returned (.tuple #[]) ∧ ∃ v' es', Mod (fun k => k = b ∨ v.ownBlock = some k) w0 w' ∧ HeapR w'.heap lo 98 100 5 (enE enH) b (.func (.func 60) #[] #[.pointer (some ⟨pb, 0, none⟩)]) v' es' (nx + 1) ∧ HP (ah cmpH) es' ∧ es'.Perm (es ++ [(z, nx)]) ∧ (v'.ownBlock = v.ownBlock ∨ ∀ k, v'.ownBlock = some k → w0.heap.size ≤ k) := by
  have hE0 : Mod (fun k => k = b ∨ v.ownBlock = some k) w0 w0 := Mod.refl _ _
  have hz0 := hE0.le
  obtain ⟨hge, hB, hO, hne⟩ := hH
  obtain ⟨a, ca, rfl, hca, hca1⟩ := hO.src.form
  have hbl := hB.lt
  have hpl := hC.lt
  have hpb1 := hC.neB hB (by decide)
  have hpv := hC.neO hO (by decide)
  have hvl : ∀ k, Value.ownBlock (.slice a es.length ca) = some k → lo ≤ k ∧ k < w0.heap.size := fun k hk => hO.lt hk
  refine enter Try.func61 rfl 78 Try.ntmps61 rfl ?_
  refine seqK fun Q1 kn2 kr3 ke4 => ?_
  refine region ?_
  refine st_e (e_box (v := .agg #[.int .i64 z.1.1, .int .i64 z.1.2, .int .i64 ((z.2.1.val : Nat) : Int), .int .i64 ((z.2.2 : Nat) : Int)]) rfl ?_)
  intro w5 hA6
  have hx7 := hA6.ext
  have hs8 := hA6.size
  have hB9 : Blk w5.heap w0.heap.size [.int .i64 z.1.1, .int .i64 z.1.2, .int .i64 ((z.2.1.val : Nat) : Int), .int .i64 ((z.2.2 : Nat) : Int)] 83 := hA6.new
  have hB10 := hC.ext hx7
  have hB11 := hB.ext hx7
  have hF12 := hO.ext hx7
  have hE13 : Mod (fun k => k = b ∨ Value.ownBlock (.slice a es.length ca) = some k) w0 w5 := hE0.ext hx7
  have hz14 := hE13.le
  have hs15 := hx7.size
  refine st_nil ?_
  refine kn2 _ _ ?_
  refine seqK fun Q16 kn17 kr18 ke19 => ?_
  refine seqK fun Q20 kn21 kr22 ke23 => ?_
  refine region ?_
  refine st_q (v := .pointer (some ⟨b, 0, none⟩)) (x_move rfl) ?_
  refine st_q (v := .bool false) (x_eqlPnil (p := some ⟨b, 0, none⟩) Try.underlying80 rfl rfl) ?_
  refine st_nil ?_
  refine kn21 _ _ ?_
  refine cndF rfl ?_
  refine skip ?_
  refine kn17 _ _ ?_
  refine seqK fun Q24 kn25 kr26 ke27 => ?_
  refine regionD1 [4, 5, 9] [0, 1, 2, 3, 4, 5, 6, 7, 8, 9, 10, 13, 14] (.one 0 (.one 1 (.one 2 (.one 3 (.one 4 (.one 5 (.one 6 (.one 7 (.one 8 (.one 9 (.one 10 (.one 11 (.one 12 (.one 13 (.one 14 (.one 15 .done)))))))))))))))) (by kernel_rfl) (by kernel_rfl) ?_
  intro w28 hx29 hs30
  have hB31 := hB10.ext hx29
  have hB32 := hB11.ext hx29
  have hB33 := hB9.ext hx29
  have hF34 := hF12.ext hx29
  have hE35 : Mod (fun k => k = b ∨ Value.ownBlock (.slice a es.length ca) = some k) w0 w28 := hE13.ext hx29
  have hz36 := hE35.le
  have hs37 := hx29.size
  have hS38 : Ext w28 w28 := Below.refl _ _
  refine d_q (v := .pointer (some ⟨b, 0, none⟩)) rfl rfl (fun _ => x_move rfl) ?_
  refine d_q (v := .pointer (some ⟨b, 0, none⟩)) rfl rfl (fun _ => x_move rfl) ?_
  refine d_q (v := .pointer (some ⟨b, 0, none⟩)) rfl rfl (fun _ => x_nilCheck rfl) ?_
  refine d_q (v := .pointer (some ⟨b, 1, none⟩)) rfl rfl (fun _ => x_field (o := 0) T.fa98_1 rfl) ?_
  refine d_l (v := .slice a es.length ca) rfl rfl rfl (fun v40 hw39 => x_load1 T.na96 rfl ((hB32.one 1 rfl).ext hw39)) ?_
  refine d_l (v := .agg #[.int .i64 z.1.1, .int .i64 z.1.2, .int .i64 ((z.2.1.val : Nat) : Int), .int .i64 ((z.2.2 : Nat) : Int)]) rfl rfl rfl (fun v42 hw41 => x_loadA [.int .i64 z.1.1, .int .i64 z.1.2, .int .i64 ((z.2.1.val : Nat) : Int), .int .i64 ((z.2.2 : Nat) : Int)] T.ag83 rfl ((hB33.cells 0 [.int .i64 z.1.1, .int .i64 z.1.2, .int .i64 ((z.2.1.val : Nat) : Int), .int .i64 ((z.2.2 : Nat) : Int)] (cells_at rfl)).ext hw41)) ?_
  refine d_q (v := .pointer (some ⟨b, 0, none⟩)) rfl rfl (fun _ => x_move rfl) ?_
  refine d_q (v := .pointer (some ⟨b, 0, none⟩)) rfl rfl (fun _ => x_nilCheck rfl) ?_
  refine d_q (v := .pointer (some ⟨b, 2, none⟩)) rfl rfl (fun _ => x_field (o := 0) T.fa98_2 rfl) ?_
  refine d_l (v := .int .i64 ((nx : Nat) : Int)) rfl rfl rfl (fun v44 hw43 => x_load1 T.na3 rfl ((hB32.one 2 rfl).ext hw43)) ?_
  refine d_q (v := .agg #[.int .i64 z.1.1, .int .i64 z.1.2, .int .i64 ((z.2.1.val : Nat) : Int), .int .i64 ((z.2.2 : Nat) : Int), .int .i64 ((nx : Nat) : Int)]) rfl rfl (fun _ => x_build (fun _ => by kernel_rfl)) ?_
  refine d_e (by decide) (d_e' rfl rfl (e_buildSlice (cs := [.int .i64 z.1.1, .int .i64 z.1.2, .int .i64 ((z.2.1.val : Nat) : Int), .int .i64 ((z.2.2 : Nat) : Int), .int .i64 ((nx : Nat) : Int)]) (e := 100) (fun _ => by kernel_rfl) ?_))
  intro w45 hA46
  have hx47 := hA46.ext
  have hs48 := hA46.size
  have hB49 : Blk w45.heap w28.heap.size [.int .i64 z.1.1, .int .i64 z.1.2, .int .i64 ((z.2.1.val : Nat) : Int), .int .i64 ((z.2.2 : Nat) : Int), .int .i64 ((nx : Nat) : Int)] 100 := hA46.new
  have hB50 := hB31.ext hx47
  have hB51 := hB32.ext hx47
  have hB52 := hB33.ext hx47
  have hF53 := hF34.ext hx47
  have hE54 : Mod (fun k => k = b ∨ Value.ownBlock (.slice a es.length ca) = some k) w0 w45 := hE35.ext hx47
  have hz55 := hE54.le
  have hs56 := hx47.size
  have hS57 := hS38.trans (hx47.mono hS38.size)
  refine ⟨fun _ => hS57, ?_⟩
  refine d_e (by decide) (d_e' rfl rfl (e_appendX T.sl96 rfl rfl hF53 (hB49.src1 (k := 5) (m := 1) rfl (by omega)) (ones (by rfl)) (by omega) (by decide) (by omega) ?_))
  intro v58 w59 hO60 hG61 hN62 hW63
  have hB64 := hB50.grown hG61 (fun e => by first | exact hne e | exact hpv e | (have := hvl _ e; omega))
  have hB65 := hB51.grown hG61 (fun e => by first | exact hne e | exact hpv e | (have := hvl _ e; omega))
  have hB66 := hB52.grown hG61 (fun e => by first | exact hne e | exact hpv e | (have := hvl _ e; omega))
  have hE67 : Mod (fun k => k = b ∨ Value.ownBlock (.slice a es.length ca) = some k) w0 w59 := hE54.grown hG61 (fun b hb => .inl (.inr hb))
  have hz68 := hE67.le
  refine ⟨need_no (by kernel_rfl), ?_⟩
  obtain ⟨b1, c1, rfl, hm1, hO1⟩ := (show Own w59.heap lo 100 5 v58 (es.length + 1) (flat (enE enH) (es ++ [(z, nx)])) from hO60.snoc).ob (hN62 (by omega))
  have hbS : (Value.slice (some ⟨b1, 0, none⟩) (es.length + 1) c1).ownBlock = Value.ownBlock (.slice a es.length ca) ∨ w0.heap.size ≤ b1 := hW63.imp (fun e => e) (fun e => by have := e.2 b1 rfl; omega)
  have hb1 : b1 ≠ b := fun e => by subst e; rcases hbS with h | h; exact hne h.symm; omega
  have hpb2 : pb ≠ b1 := fun e => by subst e; rcases hbS with h | h; exact hpv h.symm; omega
  have hbS2 : (b1 = b ∨ Value.ownBlock (.slice a es.length ca) = some b1) ∨ w0.heap.size ≤ b1 := hbS.imp (fun e => .inr e.symm) (fun e => e)
  have hl69 := hO1.lo
  have hl70 := hO1.lt
  refine d_q (v := .pointer (some ⟨b, 0, none⟩)) rfl rfl (fun _ => x_nilCheck rfl) ?_
  refine d_q (v := .pointer (some ⟨b, 1, none⟩)) rfl rfl (fun _ => x_field (o := 0) T.fa98_1 rfl) ?_
  refine d_e (by decide) (d_s' rfl rfl (e_st (v := .slice ((some ⟨b1, 0, none⟩)) ((es.length + 1)) c1) T.sz96 rfl rfl hB65 (by simp [Value.cells]) (by rfl) ?_))
  intro w71 hP72
  have hB73 : Blk w71.heap b [.func (.func 60) #[] #[.pointer (some ⟨pb, 0, none⟩)], .slice ((some ⟨b1, 0, none⟩)) ((es.length + 1)) c1, .int .i64 ((nx : Nat) : Int)] 98 := hP72.new
  have hs74 := hP72.size
  have hB75 := hB64.pt hP72 (by omega)
  have hB76 := hB66.pt hP72 (by omega)
  have hF77 := hO1.pt hP72 (by omega)
  have hE78 : Mod (fun k => k = b ∨ Value.ownBlock (.slice a es.length ca) = some k) w0 w71 := hE67.pt hP72 (.inl (.inl rfl))
  have hz79 := hE78.le
  refine ⟨need_no (by kernel_rfl), ?_⟩
  refine d_done ?_
  refine kn25 _ _ ?_
  refine seqK fun Q80 kn81 kr82 ke83 => ?_
  refine region ?_
  refine st_q (v := .pointer (some ⟨b, 0, none⟩)) (x_move rfl) ?_
  refine st_q (v := .pointer (some ⟨b, 0, none⟩)) (x_nilCheck rfl) ?_
  refine st_q (v := .pointer (some ⟨b, 2, none⟩)) (x_field (o := 0) T.fa98_2 rfl) ?_
  refine st_q (v := .int .i64 ((nx : Nat) : Int)) (x_load1 T.na3 rfl (hB73.one 2 rfl)) ?_
  refine st_q (v := .int .i64 (((nx + 1) : Nat) : Int)) (x_addN rfl rfl (by omega)) ?_
  refine st_q (v := .pointer (some ⟨b, 0, none⟩)) (x_nilCheck rfl) ?_
  refine st_q (v := .pointer (some ⟨b, 2, none⟩)) (x_field (o := 0) T.fa98_2 rfl) ?_
  refine st_s (e_st (v := .int .i64 (((nx + 1) : Nat) : Int)) T.sz3 rfl rfl hB73 (by simp [Value.cells]) (by rfl) ?_)
  intro w84 hP85
  have hB86 : Blk w84.heap b [.func (.func 60) #[] #[.pointer (some ⟨pb, 0, none⟩)], .slice ((some ⟨b1, 0, none⟩)) ((es.length + 1)) c1, .int .i64 (((nx + 1) : Nat) : Int)] 98 := hP85.new
  have hs87 := hP85.size
  have hB88 := hB75.pt hP85 (by omega)
  have hB89 := hB76.pt hP85 (by omega)
  have hF90 := hF77.pt hP85 (by omega)
  have hE91 : Mod (fun k => k = b ∨ Value.ownBlock (.slice a es.length ca) = some k) w0 w84 := hE78.pt hP85 (.inl (.inl rfl))
  have hz92 := hE91.le
  refine st_nil ?_
  refine kn81 _ _ ?_
  refine seqK fun Q93 kn94 kr95 ke96 => ?_
  refine region ?_
  refine st_q (v := .pointer (some ⟨b, 0, none⟩)) (x_move rfl) ?_
  refine st_q (v := .pointer (some ⟨b, 0, none⟩)) (x_nilCheck rfl) ?_
  refine st_q (v := .pointer (some ⟨b, 1, none⟩)) (x_field (o := 0) T.fa98_1 rfl) ?_
  refine st_q (v := .slice ((some ⟨b1, 0, none⟩)) ((es.length + 1)) c1) (x_load1 T.na96 rfl (hB86.one 1 rfl)) ?_
  refine st_q (v := .int .i64 (((es.length + 1) : Nat) : Int)) (x_lenSl rfl Try.underlying96 rfl) ?_
  refine st_q (v := .int .i64 ((((es.length + 1) - 1) : Nat) : Int)) (x_subN rfl rfl (by omega) (by omega)) ?_
  refine st_q (v := .int .i64 ((((es.length + 1) - 1) : Nat) : Int)) (x_assign rfl) ?_
  refine st_nil ?_
  refine kn94 _ _ ?_
  refine blockK fun Q97 kn98 kr99 kx100 kb101 => ?_
  refine loopK (α := Nat × (List (((Int × Int) × Fin 4294967296 × Nat) × Nat))) (fun x => [(0, .pointer (some ⟨b, 0, none⟩)), (4, .int .i64 ((x.1 : Nat) : Int))]) (fun x w102 => Mod (fun k => k = b ∨ Value.ownBlock (.slice a es.length ca) = some k) w0 w102 ∧ Blk w102.heap pb [.func (.func 20) #[] #[]] 35 ∧ Blk w102.heap b [(.func (.func 60) #[] #[.pointer (some ⟨pb, 0, none⟩)]), .slice ((some ⟨b1, 0, none⟩)) ((es.length + 1)) c1, .int .i64 (((nx + 1) : Nat) : Int)] 98 ∧ OB w102.heap lo 100 5 b1 c1 (flat (enE enH) x.2) ∧ x.2.length = es.length + 1 ∧ UpI (ah cmpH) x.2 x.1 ∧ x.2.Perm (es ++ [(z, nx)])) (fun x => x.1) ((es.length + 1 - 1), (es ++ [(z, nx)])) ⟨rfl, rfl, trivial⟩ ?_ ?_
  ·
    refine ⟨hE91, ?_⟩
    try dsimp only
    exact ⟨hB88, hB86, hF90, by simp, by rw [Nat.add_sub_cancel]; exact up_start hhp _, List.Perm.refl _⟩
  ·
    rintro τ103 ⟨i, es2⟩ w104 ⟨hx105, ⟨hC1, hB1, hO2, hLL, hU, hP⟩⟩
    try dsimp only at hC1 hB1 hO2 hLL hU hP
    have hz106 := hx105.le
    intro Q107 kn108 kr109 ke110
    have hl111 := hO2.lo
    have hl112 := hO2.lt
    have hi0 := hU.1
    refine seqK fun Q113 kn114 kr115 ke116 => ?_
    refine seqK fun Q117 kn118 kr119 ke120 => ?_
    refine region ?_
    refine st_q (v := .int .i64 ((i : Nat) : Int)) (x_move rfl) ?_
    refine st_q (v := .bool (decide (0 < i))) (x_gtrN rfl rfl) ?_
    refine st_if (p := 0 < i) (x_move rfl) (fun h121 => ?_) (fun h121 => ?_)
    ·
      refine st_gq 2 37 rfl rfl (by decide) ?_
      refine st_q (v := .pointer (some ⟨b, 0, none⟩)) (x_move rfl) ?_
      refine st_gq 2 37 rfl rfl (by decide) ?_
      refine st_q (v := .int .i64 ((i : Nat) : Int)) (x_move rfl) ?_
      refine st_gq 2 37 rfl rfl (by decide) ?_
      refine st_q (v := .int .i64 ((i : Nat) : Int)) (x_move rfl) ?_
      refine st_gq 2 37 rfl rfl (by decide) ?_
      refine st_q (v := .int .i64 (((i - 1) : Nat) : Int)) (x_subN rfl rfl (by omega) (by omega)) ?_
      refine st_gq 2 37 rfl rfl (by decide) ?_
      refine st_q (v := .int .i64 ((((i - 1) / 2) : Nat) : Int)) (x_quoN rfl rfl (by omega) (by omega)) ?_
      refine st_gq 2 37 rfl rfl (by decide) ?_
      have hH124 := HeapR.of_ob (enE_len enH_len) hge hB1 hO2 hm1 hLL hb1
      refine st_c (t_call [.pointer (some ⟨b, 0, none⟩), .int .i64 ((i : Nat) : Int), .int .i64 ((((i - 1) / 2) : Nat) : Int)] T.cf71 rfl rfl) (ahead71 lo pb b (nx + 1) _ es2 i ((i - 1) / 2) _ hC1 hH124 (by omega) (by omega)) ?_
      rintro _ w122 ⟨rfl, hx123⟩
      refine ⟨_, rfl, ?_⟩
      have hB125 := hC1.ext hx123
      have hB126 := hB1.ext hx123
      have hF127 := hO2.ext hx123
      have hE128 : Mod (fun k => k = b ∨ Value.ownBlock (.slice a es.length ca) = some k) w0 w122 := hx105.ext hx123
      have hz129 := hE128.le
      have hs130 := hx123.size
      refine st_q (v := .bool (decide (ah cmpH (el es2 i) (el es2 ((i - 1) / 2))))) (x_pickT rfl rfl) ?_
      refine st_nil ?_
      refine kn118 _ _ ?_
      refine cnd (p := ah cmpH (el es2 i) (el es2 ((i - 1) / 2))) rfl (fun h131 => ?_) (fun h131 => ?_)
      ·
        refine skip ?_
        refine kn114 _ _ ?_
        refine seqK fun Q132 kn133 kr134 ke135 => ?_
        refine blockK fun Q136 kn137 kr138 kx139 kb140 => ?_
        refine regionD1 [3, 8, 15, 20, 24, 27] [0, 1, 2, 3, 4, 5, 6, 7, 8, 9, 10, 11, 12, 13, 14, 15, 16, 17, 18, 19, 20, 21, 22, 23, 24, 25, 26, 27, 28, 30] (.one 0 (.one 1 (.one 2 (.one 3 (.one 4 (.one 5 (.one 6 (.one 7 (.one 8 (.one 9 (.one 10 (.one 11 (.one 12 (.one 13 (.one 14 (.one 15 (.one 16 (.one 17 (.one 18 (.one 19 (.one 20 (.one 21 (.one 22 (.one 23 (.one 24 (.one 25 (.one 26 (.one 27 (.one 28 (.one 29 (.one 30 (.one 31 .done)))))))))))))))))))))))))))))))) (by kernel_rfl) (by kernel_rfl) ?_
        intro w141 hx142 hs143
        have hB144 := hB125.ext hx142
        have hB145 := hB126.ext hx142
        have hF146 := hF127.ext hx142
        have hE147 : Mod (fun k => k = b ∨ Value.ownBlock (.slice a es.length ca) = some k) w0 w141 := hE128.ext hx142
        have hz148 := hE147.le
        have hs149 := hx142.size
        have hS150 : Ext w141 w141 := Below.refl _ _
        refine d_q (v := .pointer (some ⟨b, 0, none⟩)) rfl rfl (fun _ => x_move rfl) ?_
        refine d_q (v := .pointer (some ⟨b, 0, none⟩)) rfl rfl (fun _ => x_nilCheck rfl) ?_
        refine d_q (v := .pointer (some ⟨b, 1, none⟩)) rfl rfl (fun _ => x_field (o := 0) T.fa98_1 rfl) ?_
        refine d_l (v := .slice ((some ⟨b1, 0, none⟩)) ((es.length + 1)) c1) rfl rfl rfl (fun v152 hw151 => x_load1 T.na96 rfl ((hB145.one 1 rfl).ext hw151)) ?_
        refine d_q (v := .int .i64 ((i : Nat) : Int)) rfl rfl (fun _ => x_move rfl) ?_
        refine d_q (v := .pointer (some ⟨b, 0, none⟩)) rfl rfl (fun _ => x_move rfl) ?_
        refine d_q (v := .pointer (some ⟨b, 0, none⟩)) rfl rfl (fun _ => x_nilCheck rfl) ?_
        refine d_q (v := .pointer (some ⟨b, 1, none⟩)) rfl rfl (fun _ => x_field (o := 0) T.fa98_1 rfl) ?_
        refine d_l (v := .slice ((some ⟨b1, 0, none⟩)) ((es.length + 1)) c1) rfl rfl rfl (fun v154 hw153 => x_load1 T.na96 rfl ((hB145.one 1 rfl).ext hw153)) ?_
        refine d_q (v := .int .i64 ((i : Nat) : Int)) rfl rfl (fun _ => x_move rfl) ?_
        refine d_q (v := .int .i64 (((i - 1) : Nat) : Int)) rfl rfl (fun _ => x_subN rfl rfl (by omega) (by omega)) ?_
        refine d_q (v := .int .i64 ((((i - 1) / 2) : Nat) : Int)) rfl rfl (fun _ => x_quoN rfl rfl (by omega) (by omega)) ?_
        refine d_q (v := .pointer (some ⟨b, 0, none⟩)) rfl rfl (fun _ => x_move rfl) ?_
        refine d_q (v := .pointer (some ⟨b, 0, none⟩)) rfl rfl (fun _ => x_nilCheck rfl) ?_
        refine d_q (v := .pointer (some ⟨b, 1, none⟩)) rfl rfl (fun _ => x_field (o := 0) T.fa98_1 rfl) ?_
        refine d_l (v := .slice ((some ⟨b1, 0, none⟩)) ((es.length + 1)) c1) rfl rfl rfl (fun v156 hw155 => x_load1 T.na96 rfl ((hB145.one 1 rfl).ext hw155)) ?_
        refine d_q (v := .int .i64 ((i : Nat) : Int)) rfl rfl (fun _ => x_move rfl) ?_
        refine d_q (v := .int .i64 (((i - 1) : Nat) : Int)) rfl rfl (fun _ => x_subN rfl rfl (by omega) (by omega)) ?_
        refine d_q (v := .int .i64 ((((i - 1) / 2) : Nat) : Int)) rfl rfl (fun _ => x_quoN rfl rfl (by omega) (by omega)) ?_
        refine d_q (v := .pointer (some ⟨b1, 0 + (((i - 1) / 2)) * 5, none⟩)) rfl rfl (fun _ => x_index T.sl96 rfl rfl (by omega)) ?_
        refine d_l (v := .agg #[.int .i64 ((el es2 (((i - 1) / 2))).1.1.1), .int .i64 ((el es2 (((i - 1) / 2))).1.1.2), .int .i64 (((el es2 (((i - 1) / 2))).1.2.1.val : Nat) : Int), .int .i64 (((el es2 (((i - 1) / 2))).1.2.2 : Nat) : Int), .int .i64 (((el es2 (((i - 1) / 2))).2 : Nat) : Int)]) rfl rfl rfl (fun v158 hw157 => x_loadA [.int .i64 ((el es2 (((i - 1) / 2))).1.1.1), .int .i64 ((el es2 (((i - 1) / 2))).1.1.2), .int .i64 (((el es2 (((i - 1) / 2))).1.2.1.val : Nat) : Int), .int .i64 (((el es2 (((i - 1) / 2))).1.2.2 : Nat) : Int), .int .i64 (((el es2 (((i - 1) / 2))).2 : Nat) : Int)] T.ag100 rfl ((hF146.cells.elem (enE_len enH_len) (i := ((i - 1) / 2)) (by omega)).ext hw157)) ?_
        refine d_q (v := .pointer (some ⟨b, 0, none⟩)) rfl rfl (fun _ => x_move rfl) ?_
        refine d_q (v := .pointer (some ⟨b, 0, none⟩)) rfl rfl (fun _ => x_nilCheck rfl) ?_
        refine d_q (v := .pointer (some ⟨b, 1, none⟩)) rfl rfl (fun _ => x_field (o := 0) T.fa98_1 rfl) ?_
        refine d_l (v := .slice ((some ⟨b1, 0, none⟩)) ((es.length + 1)) c1) rfl rfl rfl (fun v160 hw159 => x_load1 T.na96 rfl ((hB145.one 1 rfl).ext hw159)) ?_
        refine d_q (v := .int .i64 ((i : Nat) : Int)) rfl rfl (fun _ => x_move rfl) ?_
        refine d_q (v := .pointer (some ⟨b1, 0 + i * 5, none⟩)) rfl rfl (fun _ => x_index T.sl96 rfl rfl (by omega)) ?_
        refine d_l (v := .agg #[.int .i64 ((el es2 i).1.1.1), .int .i64 ((el es2 i).1.1.2), .int .i64 (((el es2 i).1.2.1.val : Nat) : Int), .int .i64 (((el es2 i).1.2.2 : Nat) : Int), .int .i64 (((el es2 i).2 : Nat) : Int)]) rfl rfl rfl (fun v162 hw161 => x_loadA [.int .i64 ((el es2 i).1.1.1), .int .i64 ((el es2 i).1.1.2), .int .i64 (((el es2 i).1.2.1.val : Nat) : Int), .int .i64 (((el es2 i).1.2.2 : Nat) : Int), .int .i64 (((el es2 i).2 : Nat) : Int)] T.ag100 rfl ((hF146.cells.elem (enE_len enH_len) (i := i) (by omega)).ext hw161)) ?_
        refine d_q (v := .pointer (some ⟨b1, 0 + i * 5, none⟩)) rfl rfl (fun _ => x_index T.sl96 rfl rfl (by omega)) ?_
        refine d_e (by decide) (d_s' rfl rfl (e_stO (v := .agg #[.int .i64 ((el es2 (((i - 1) / 2))).1.1.1), .int .i64 ((el es2 (((i - 1) / 2))).1.1.2), .int .i64 (((el es2 (((i - 1) / 2))).1.2.1.val : Nat) : Int), .int .i64 (((el es2 (((i - 1) / 2))).1.2.2 : Nat) : Int), .int .i64 (((el es2 (((i - 1) / 2))).2 : Nat) : Int)]) (u := (el es2 (((i - 1) / 2)))) (enE_len enH_len) T.sz100 rfl rfl rfl hF146 (by first | omega | (rw [List.length_set]; omega)) (by rfl) ?_))
        intro w163 _ hP164 hB165
        have hs166 := hP164.size
        have hB167 := hB144.pt hP164 (by omega)
        have hB168 := hB145.pt hP164 (by omega)
        have hE169 : Mod (fun k => k = b ∨ Value.ownBlock (.slice a es.length ca) = some k) w0 w163 := hE147.pt hP164 (hbS2)
        have hz170 := hE169.le
        refine ⟨need_no (by kernel_rfl), ?_⟩
        refine d_q (v := .pointer (some ⟨b1, 0 + (((i - 1) / 2)) * 5, none⟩)) rfl rfl (fun _ => x_index T.sl96 rfl rfl (by omega)) ?_
        refine d_e (by decide) (d_s' rfl rfl (e_stO (v := .agg #[.int .i64 ((el es2 i).1.1.1), .int .i64 ((el es2 i).1.1.2), .int .i64 (((el es2 i).1.2.1.val : Nat) : Int), .int .i64 (((el es2 i).1.2.2 : Nat) : Int), .int .i64 (((el es2 i).2 : Nat) : Int)]) (u := (el es2 i)) (enE_len enH_len) T.sz100 rfl rfl rfl hB165 (by first | omega | (rw [List.length_set]; omega)) (by rfl) ?_))
        intro w171 _ hP172 hB173
        have hs174 := hP172.size
        have hB175 := hB167.pt hP172 (by omega)
        have hB176 := hB168.pt hP172 (by omega)
        have hE177 : Mod (fun k => k = b ∨ Value.ownBlock (.slice a es.length ca) = some k) w0 w171 := hE169.pt hP172 (hbS2)
        have hz178 := hE177.le
        refine ⟨need_no (by kernel_rfl), ?_⟩
        refine d_done ?_
        refine kn137 _ _ ?_
        refine kn133 _ _ ?_
        refine region ?_
        refine st_q (v := .int .i64 ((i : Nat) : Int)) (x_move rfl) ?_
        refine st_q (v := .int .i64 (((i - 1) : Nat) : Int)) (x_subN rfl rfl (by omega) (by omega)) ?_
        refine st_q (v := .int .i64 ((((i - 1) / 2) : Nat) : Int)) (x_quoN rfl rfl (by omega) (by omega)) ?_
        refine st_q (v := .int .i64 ((((i - 1) / 2) : Nat) : Int)) (x_assign rfl) ?_
        refine st_nil ?_
        refine kn108 _ (((i - 1) / 2), (swap es2 i ((i - 1) / 2))) _ ⟨rfl, rfl, trivial⟩ ⟨hE177, ?_⟩ ?_
        ·
          try dsimp only
          exact ⟨hB175, hB176, hB173, by rw [swap_length]; exact hLL, up_step (ah_swo cmpH_law) hU (by omega) (by assumption), (swap_perm (by omega) (by omega)).trans hP⟩
        ·
          (try dsimp only); omega
      ·
        refine exit ?_
        refine ke116 _ _ _ ?_
        refine ke110 _ _ _ ?_
        refine kb101 _ _ ?_
        refine leave0' (P := Try.prog) (fn := Try.f61) rfl ?_
        have hH179 := HeapR.of_ob (enE_len enH_len) hge hB126 hF127 hm1 hLL hb1
        exact ⟨rfl, _, _, hE128, hH179, up_done hU (by first | exact .inl (by omega) | exact .inr (by assumption)), hP, hbS.imp (fun e => e) (fun e k hk => by simp [Value.ownBlock] at hk; omega)⟩
    ·
      refine st_gn 2 37 rfl rfl (by decide) rfl ?_
      refine st_gn 2 37 rfl rfl (by decide) rfl ?_
      refine st_gn 2 37 rfl rfl (by decide) rfl ?_
      refine st_gn 2 37 rfl rfl (by decide) rfl ?_
      refine st_gn 2 37 rfl rfl (by decide) rfl ?_
      refine st_gn 2 37 rfl rfl (by decide) rfl ?_
      refine st_q (v := .bool false) (x_pickF rfl rfl) ?_
      refine st_nil ?_
      refine kn118 _ _ ?_
      refine cndF rfl ?_
      refine exit ?_
      refine ke116 _ _ _ ?_
      refine ke110 _ _ _ ?_
      refine kb101 _ _ ?_
      refine leave0' (P := Try.prog) (fn := Try.f61) rfl ?_
      have hH180 := HeapR.of_ob (enE_len enH_len) hge hB1 hO2 hm1 hLL hb1
      exact ⟨rfl, _, _, hx105, hH180, up_done hU (by first | exact .inl (by omega) | exact .inr (by assumption)), hP, hbS.imp (fun e => e) (fun e k hk => by simp [Value.ownBlock] at hk; omega)⟩

set_option maxHeartbeats 4000000 in
theorem pop63 (lo pb : Nat) (b nx : Nat) (v : Value) (es : List (((Int × Int) × Fin 4294967296 × Nat) × Nat)) (w0 : World) (hC : Blk w0.heap pb [.func (.func 20) #[] #[]] 35) (hH : HeapR w0.heap lo 98 100 5 (enE enH) b (.func (.func 60) #[] #[.pointer (some ⟨pb, 0, none⟩)]) v es nx) (hz : 0 < es.length) (hlen : es.length ≤ 1099511627777) (hhp : HP (ah cmpH) es) : Calls Try.prog 63 #[.pointer (some ⟨b, 0, none⟩)] w0 fun e w' => e = .returned (.tuple #[.agg (enH (el es 0).1).toArray, .bool true]) ∧ ∃ v' es', Mod (fun k => k = b ∨ v.ownBlock = some k) w0 w' ∧ HeapR w'.heap lo 98 100 5 (enE enH) b (.func (.func 60) #[] #[.pointer (some ⟨pb, 0, none⟩)]) v' es' nx ∧ HP (ah cmpH) es' ∧ es.Perm (el es 0 :: es') ∧ v'.ownBlock = v.ownBlock := by
  have hE0 : Mod (fun k => k = b ∨ v.ownBlock = some k) w0 w0 := Mod.refl _ _
  have hz0 := hE0.le
  obtain ⟨hge, hB, hO, hne⟩ := hH
  obtain ⟨b1, c1, rfl, hm1, hO1⟩ := hO.ob (fun e => by subst e; have := hO.src.capl; omega)
  have hbl := hB.lt
  have hb1 : b1 ≠ b := fun e => hne (congrArg some e)
  have hbl1 := hO1.lt
  have hpl := hC.lt
  have hpb1 := hC.neB hB (by decide)
  have hpb2 : pb ≠ b1 := fun e => (hC.neO (hO1.own hm1 (by rw [flat_length (enE_len enH_len)])) (by decide)) (congrArg some e.symm)
  have hl1 := hO1.lo
  have hl2 := hO1.lt
  refine enter Try.func63 rfl 104 Try.ntmps63 rfl ?_
  refine seqK fun Q3 kn4 kr5 ke6 => ?_
  refine region ?_
  refine st_e (e_alloc T.zv83 ?_)
  intro w7 hA8
  have hx9 := hA8.ext
  have hs10 := hA8.size
  have hB11 : Blk w7.heap w0.heap.size [.int .i64 ((0 : Nat) : Int), .int .i64 ((0 : Nat) : Int), .int .i64 ((0 : Nat) : Int), .int .i64 ((0 : Nat) : Int)] 83 := hA8.new
  have hB12 := hC.ext hx9
  have hB13 := hB.ext hx9
  have hF14 := hO1.ext hx9
  have hE15 : Mod (fun k => k = b ∨ Value.ownBlock (.slice (some ⟨b1, 0, none⟩) es.length c1) = some k) w0 w7 := hE0.ext hx9
  have hz16 := hE15.le
  have hs17 := hx9.size
  refine st_q (v := .bool false) (x_assign rfl) ?_
  refine st_nil ?_
  refine kn4 _ _ ?_
  refine seqK fun Q18 kn19 kr20 ke21 => ?_
  refine region ?_
  refine st_q (v := .pointer (some ⟨b, 0, none⟩)) (x_move rfl) ?_
  have hH24 := HeapR.of_ob (enE_len enH_len) hge hB13 hF14 (m := es.length) hm1 rfl hb1
  refine st_c (t_call [.pointer (some ⟨b, 0, none⟩)] T.cf72 rfl rfl) (peek72_1 lo pb b nx _ es _ hB12 hH24 (by omega)) ?_
  rintro _ w22 ⟨rfl, hx23⟩
  refine ⟨_, rfl, ?_⟩
  have hB25 := hB12.ext hx23
  have hB26 := hB13.ext hx23
  have hB27 := hB11.ext hx23
  have hF28 := hF14.ext hx23
  have hE29 : Mod (fun k => k = b ∨ Value.ownBlock (.slice (some ⟨b1, 0, none⟩) es.length c1) = some k) w0 w22 := hE15.ext hx23
  have hz30 := hE29.le
  have hs31 := hx23.size
  refine st_q (v := .tuple #[.agg #[.int .i64 ((el es 0).1.1.1), .int .i64 ((el es 0).1.1.2), .int .i64 (((el es 0).1.2.1.val : Nat) : Int), .int .i64 (((el es 0).1.2.2 : Nat) : Int)], .bool true]) (x_move rfl) ?_
  refine st_q (v := .agg #[.int .i64 ((el es 0).1.1.1), .int .i64 ((el es 0).1.1.2), .int .i64 (((el es 0).1.2.1.val : Nat) : Int), .int .i64 (((el es 0).1.2.2 : Nat) : Int)]) (x_extract rfl rfl) ?_
  refine st_q (v := .bool true) (x_extract rfl rfl) ?_
  refine st_e (e_alloc T.zv83 ?_)
  intro w32 hA33
  have hx34 := hA33.ext
  have hs35 := hA33.size
  have hB36 : Blk w32.heap w22.heap.size [.int .i64 ((0 : Nat) : Int), .int .i64 ((0 : Nat) : Int), .int .i64 ((0 : Nat) : Int), .int .i64 ((0 : Nat) : Int)] 83 := hA33.new
  have hB37 := hB25.ext hx34
  have hB38 := hB26.ext hx34
  have hB39 := hB27.ext hx34
  have hF40 := hF28.ext hx34
  have hE41 : Mod (fun k => k = b ∨ Value.ownBlock (.slice (some ⟨b1, 0, none⟩) es.length c1) = some k) w0 w32 := hE29.ext hx34
  have hz42 := hE41.le
  have hs43 := hx34.size
  refine st_s (e_st (v := .agg #[.int .i64 ((el es 0).1.1.1), .int .i64 ((el es 0).1.1.2), .int .i64 (((el es 0).1.2.1.val : Nat) : Int), .int .i64 (((el es 0).1.2.2 : Nat) : Int)]) T.sz83 rfl rfl hB36 (by simp [Value.cells]) (by rfl) ?_)
  intro w44 hP45
  have hB46 : Blk w44.heap w22.heap.size [.int .i64 ((el es 0).1.1.1), .int .i64 ((el es 0).1.1.2), .int .i64 (((el es 0).1.2.1.val : Nat) : Int), .int .i64 (((el es 0).1.2.2 : Nat) : Int)] 83 := hP45.new
  have hs47 := hP45.size
  have hB48 := hB37.pt hP45 (by omega)
  have hB49 := hB38.pt hP45 (by omega)
  have hB50 := hB39.pt hP45 (by omega)
  have hF51 := hF40.pt hP45 (by omega)
  have hE52 : Mod (fun k => k = b ∨ Value.ownBlock (.slice (some ⟨b1, 0, none⟩) es.length c1) = some k) w0 w44 := hE41.pt hP45 (.inr (by omega))
  have hz53 := hE52.le
  refine st_q (v := .bool true) (x_assign rfl) ?_
  refine st_nil ?_
  refine kn19 _ _ ?_
  refine seqK fun Q54 kn55 kr56 ke57 => ?_
  refine seqK fun Q58 kn59 kr60 ke61 => ?_
  refine region ?_
  refine st_q (v := .bool true) (x_move rfl) ?_
  refine st_q (v := .bool false) (x_notB (b := true) rfl) ?_
  refine st_nil ?_
  refine kn59 _ _ ?_
  refine cndF rfl ?_
  refine skip ?_
  refine kn55 _ _ ?_
  refine seqK fun Q62 kn63 kr64 ke65 => ?_
  refine region ?_
  refine st_q (v := .pointer (some ⟨b, 0, none⟩)) (x_move rfl) ?_
  refine st_q (v := .pointer (some ⟨b, 0, none⟩)) (x_nilCheck rfl) ?_
  refine st_q (v := .pointer (some ⟨b, 1, none⟩)) (x_field (o := 0) T.fa98_1 rfl) ?_
  refine st_q (v := .slice ((some ⟨b1, 0, none⟩)) es.length c1) (x_load1 T.na96 rfl (hB49.one 1 rfl)) ?_
  refine st_q (v := .int .i64 ((es.length : Nat) : Int)) (x_lenSl rfl Try.underlying96 rfl) ?_
  refine st_q (v := .int .i64 (((es.length - 1) : Nat) : Int)) (x_subN rfl rfl (by omega) (by omega)) ?_
  refine st_q (v := .int .i64 (((es.length - 1) : Nat) : Int)) (x_assign rfl) ?_
  refine st_nil ?_
  refine kn63 _ _ ?_
  refine seqK fun Q66 kn67 kr68 ke69 => ?_
  refine regionD1 [3, 7, 10] [0, 1, 2, 3, 4, 5, 6, 7, 8, 9, 10, 11] (.one 0 (.one 1 (.one 2 (.one 3 (.one 4 (.one 5 (.one 6 (.one 7 (.one 8 (.one 9 (.one 10 (.one 11 (.one 12 .done))))))))))))) (by kernel_rfl) (by kernel_rfl) ?_
  intro w70 hx71 hs72
  have hB73 := hB48.ext hx71
  have hB74 := hB49.ext hx71
  have hB75 := hB50.ext hx71
  have hB76 := hB46.ext hx71
  have hF77 := hF51.ext hx71
  have hE78 : Mod (fun k => k = b ∨ Value.ownBlock (.slice (some ⟨b1, 0, none⟩) es.length c1) = some k) w0 w70 := hE52.ext hx71
  have hz79 := hE78.le
  have hs80 := hx71.size
  have hS81 : Ext w70 w70 := Below.refl _ _
  refine d_q (v := .pointer (some ⟨b, 0, none⟩)) rfl rfl (fun _ => x_move rfl) ?_
  refine d_q (v := .pointer (some ⟨b, 0, none⟩)) rfl rfl (fun _ => x_nilCheck rfl) ?_
  refine d_q (v := .pointer (some ⟨b, 1, none⟩)) rfl rfl (fun _ => x_field (o := 0) T.fa98_1 rfl) ?_
  refine d_l (v := .slice ((some ⟨b1, 0, none⟩)) es.length c1) rfl rfl rfl (fun v83 hw82 => x_load1 T.na96 rfl ((hB74.one 1 rfl).ext hw82)) ?_
  refine d_q (v := .pointer (some ⟨b, 0, none⟩)) rfl rfl (fun _ => x_move rfl) ?_
  refine d_q (v := .pointer (some ⟨b, 0, none⟩)) rfl rfl (fun _ => x_nilCheck rfl) ?_
  refine d_q (v := .pointer (some ⟨b, 1, none⟩)) rfl rfl (fun _ => x_field (o := 0) T.fa98_1 rfl) ?_
  refine d_l (v := .slice ((some ⟨b1, 0, none⟩)) es.length c1) rfl rfl rfl (fun v85 hw84 => x_load1 T.na96 rfl ((hB74.one 1 rfl).ext hw84)) ?_
  refine d_q (v := .int .i64 (((es.length - 1) : Nat) : Int)) rfl rfl (fun _ => x_move rfl) ?_
  refine d_q (v := .pointer (some ⟨b1, 0 + ((es.length - 1)) * 5, none⟩)) rfl rfl (fun _ => x_index T.sl96 rfl rfl (by omega)) ?_
  refine d_l (v := .agg #[.int .i64 ((el es ((es.length - 1))).1.1.1), .int .i64 ((el es ((es.length - 1))).1.1.2), .int .i64 (((el es ((es.length - 1))).1.2.1.val : Nat) : Int), .int .i64 (((el es ((es.length - 1))).1.2.2 : Nat) : Int), .int .i64 (((el es ((es.length - 1))).2 : Nat) : Int)]) rfl rfl rfl (fun v87 hw86 => x_loadA [.int .i64 ((el es ((es.length - 1))).1.1.1), .int .i64 ((el es ((es.length - 1))).1.1.2), .int .i64 (((el es ((es.length - 1))).1.2.1.val : Nat) : Int), .int .i64 (((el es ((es.length - 1))).1.2.2 : Nat) : Int), .int .i64 (((el es ((es.length - 1))).2 : Nat) : Int)] T.ag100 rfl ((hF77.cells.elem (enE_len enH_len) (i := (es.length - 1)) (by omega)).ext hw86)) ?_
  refine d_q (v := .pointer (some ⟨b1, 0 + 0 * 5, none⟩)) rfl rfl (fun _ => x_index T.sl96 rfl rfl (by omega)) ?_
  refine d_e (by decide) (d_s' rfl rfl (e_stO (v := .agg #[.int .i64 ((el es ((es.length - 1))).1.1.1), .int .i64 ((el es ((es.length - 1))).1.1.2), .int .i64 (((el es ((es.length - 1))).1.2.1.val : Nat) : Int), .int .i64 (((el es ((es.length - 1))).1.2.2 : Nat) : Int), .int .i64 (((el es ((es.length - 1))).2 : Nat) : Int)]) (u := (el es ((es.length - 1)))) (enE_len enH_len) T.sz100 rfl rfl rfl hF77 (by first | omega | (rw [List.length_set]; omega)) (by rfl) ?_))
  intro w88 _ hP89 hB90
  have hs91 := hP89.size
  have hB92 := hB73.pt hP89 (by omega)
  have hB93 := hB74.pt hP89 (by omega)
  have hB94 := hB75.pt hP89 (by omega)
  have hB95 := hB76.pt hP89 (by omega)
  have hE96 : Mod (fun k => k = b ∨ Value.ownBlock (.slice (some ⟨b1, 0, none⟩) es.length c1) = some k) w0 w88 := hE78.pt hP89 (.inl (.inr rfl))
  have hz97 := hE96.le
  refine ⟨need_no (by kernel_rfl), ?_⟩
  refine d_done ?_
  refine kn67 _ _ ?_
  refine seqK fun Q98 kn99 kr100 ke101 => ?_
  refine region ?_
  refine st_q (v := .pointer (some ⟨b, 0, none⟩)) (x_move rfl) ?_
  refine st_q (v := .pointer (some ⟨b, 0, none⟩)) (x_nilCheck rfl) ?_
  refine st_q (v := .pointer (some ⟨b, 1, none⟩)) (x_field (o := 0) T.fa98_1 rfl) ?_
  refine st_q (v := .slice ((some ⟨b1, 0, none⟩)) es.length c1) (x_load1 T.na96 rfl (hB93.one 1 rfl)) ?_
  refine st_q (v := .int .i64 (((es.length - 1) : Nat) : Int)) (x_move rfl) ?_
  refine st_q (v := .agg #[.int .i64 ((0 : Nat) : Int), .int .i64 ((0 : Nat) : Int), .int .i64 ((0 : Nat) : Int), .int .i64 ((0 : Nat) : Int), .int .i64 ((0 : Nat) : Int)]) (x_build (fun _ => by kernel_rfl)) ?_
  refine st_q (v := .pointer (some ⟨b1, 0 + ((es.length - 1)) * 5, none⟩)) (x_index T.sl96 rfl rfl (by omega)) ?_
  refine st_s (e_stO (v := .agg #[.int .i64 ((0 : Nat) : Int), .int .i64 ((0 : Nat) : Int), .int .i64 ((0 : Nat) : Int), .int .i64 ((0 : Nat) : Int), .int .i64 ((0 : Nat) : Int)]) (u := (((((0 : Nat) : Int), ((0 : Nat) : Int)), (0 : Fin 4294967296), 0), 0)) (enE_len enH_len) T.sz100 rfl rfl rfl hB90 (by first | omega | (rw [List.length_set]; omega)) (by rfl) ?_)
  intro w102 _ hP103 hB104
  have hs105 := hP103.size
  have hB106 := hB92.pt hP103 (by omega)
  have hB107 := hB93.pt hP103 (by omega)
  have hB108 := hB94.pt hP103 (by omega)
  have hB109 := hB95.pt hP103 (by omega)
  have hE110 : Mod (fun k => k = b ∨ Value.ownBlock (.slice (some ⟨b1, 0, none⟩) es.length c1) = some k) w0 w102 := hE96.pt hP103 (.inl (.inr rfl))
  have hz111 := hE110.le
  refine st_nil ?_
  refine kn99 _ _ ?_
  refine seqK fun Q112 kn113 kr114 ke115 => ?_
  refine region ?_
  refine st_q (v := .pointer (some ⟨b, 0, none⟩)) (x_move rfl) ?_
  refine st_q (v := .pointer (some ⟨b, 0, none⟩)) (x_move rfl) ?_
  refine st_q (v := .pointer (some ⟨b, 0, none⟩)) (x_nilCheck rfl) ?_
  refine st_q (v := .pointer (some ⟨b, 1, none⟩)) (x_field (o := 0) T.fa98_1 rfl) ?_
  refine st_q (v := .slice ((some ⟨b1, 0, none⟩)) es.length c1) (x_load1 T.na96 rfl (hB107.one 1 rfl)) ?_
  refine st_q (v := .int .i64 (((es.length - 1) : Nat) : Int)) (x_move rfl) ?_
  refine st_q (v := .slice ((some ⟨b1, 0, none⟩)) ((es.length - 1)) c1) (x_sliceHi T.sl96 rfl rfl (by omega)) ?_
  refine st_q (v := .pointer (some ⟨b, 0, none⟩)) (x_nilCheck rfl) ?_
  refine st_q (v := .pointer (some ⟨b, 1, none⟩)) (x_field (o := 0) T.fa98_1 rfl) ?_
  refine st_s (e_st (v := .slice ((some ⟨b1, 0, none⟩)) ((es.length - 1)) c1) T.sz96 rfl rfl hB107 (by simp [Value.cells]) (by rfl) ?_)
  intro w116 hP117
  have hB118 : Blk w116.heap b [.func (.func 60) #[] #[.pointer (some ⟨pb, 0, none⟩)], .slice ((some ⟨b1, 0, none⟩)) ((es.length - 1)) c1, .int .i64 ((nx : Nat) : Int)] 98 := hP117.new
  have hs119 := hP117.size
  have hB120 := hB106.pt hP117 (by omega)
  have hB121 := hB108.pt hP117 (by omega)
  have hB122 := hB109.pt hP117 (by omega)
  have hF123 := hB104.pt hP117 (by omega)
  have hE124 : Mod (fun k => k = b ∨ Value.ownBlock (.slice (some ⟨b1, 0, none⟩) es.length c1) = some k) w0 w116 := hE110.pt hP117 (.inl (.inl rfl))
  have hz125 := hE124.le
  refine st_nil ?_
  refine kn113 _ _ ?_
  refine seqK fun Q126 kn127 kr128 ke129 => ?_
  refine region ?_
  refine st_q (v := .int .i64 ((0 : Nat) : Int)) (x_assign rfl) ?_
  refine st_nil ?_
  refine kn127 _ _ ?_
  refine blockK fun Q130 kn131 kr132 kx133 kb134 => ?_
  refine loopK (α := Nat × (List (((Int × Int) × Fin 4294967296 × Nat) × Nat))) (fun x => [(0, .pointer (some ⟨b, 0, none⟩)), (2, .pointer (some ⟨w0.heap.size, 0, none⟩)), (4, .pointer (some ⟨w22.heap.size, 0, none⟩)), (6, .int .i64 (((es.length - 1) : Nat) : Int)), (7, .int .i64 ((x.1 : Nat) : Int))]) (fun x w135 => Mod (fun k => k = b ∨ Value.ownBlock (.slice (some ⟨b1, 0, none⟩) es.length c1) = some k) w0 w135 ∧ Blk w135.heap pb [.func (.func 20) #[] #[]] 35 ∧ Blk w135.heap b [(.func (.func 60) #[] #[.pointer (some ⟨pb, 0, none⟩)]), .slice ((some ⟨b1, 0, none⟩)) ((es.length - 1)) c1, .int .i64 ((nx : Nat) : Int)] 98 ∧ OB w135.heap lo 100 5 b1 c1 (flat (enE enH) x.2) ∧ Blk w135.heap w0.heap.size [.int .i64 ((0 : Nat) : Int), .int .i64 ((0 : Nat) : Int), .int .i64 ((0 : Nat) : Int), .int .i64 ((0 : Nat) : Int)] 83 ∧ Blk w135.heap w22.heap.size [.int .i64 ((el es 0).1.1.1), .int .i64 ((el es 0).1.1.2), .int .i64 (((el es 0).1.2.1.val : Nat) : Int), .int .i64 (((el es 0).1.2.2 : Nat) : Int)] 83 ∧ x.2.length = es.length - 1 ∧ x.1 ≤ es.length ∧ DownI (ah cmpH) x.2 x.1 ∧ es.Perm (el es 0 :: x.2)) (fun x => es.length - x.1) (0, ((es.set 0 (el es (es.length - 1))).take (es.length - 1))) ⟨rfl, rfl, rfl, rfl, rfl, trivial⟩ ?_ ?_
  ·
    refine ⟨hE124, ?_⟩
    try dsimp only
    have hT := hF123.take (es.length - 1)
    rw [take_set_le _ (Nat.le_refl _)] at hT
    exact ⟨hB120, hB118, hT, hB121, hB122, by rw [List.length_take, List.length_set]; omega, Nat.zero_le _, down_start hhp (by omega), pop_perm (by omega)⟩
  ·
    rintro τ136 ⟨i, es2⟩ w137 ⟨hx138, ⟨hC1, hB1, hO2, hX1, hX2, hLL, hi, hD, hP⟩⟩
    try dsimp only at hC1 hB1 hO2 hX1 hX2 hLL hi hD hP
    have hz139 := hx138.le
    intro Q140 kn141 kr142 ke143
    have hl144 := hO2.lo
    have hl145 := hO2.lt
    refine blockK fun Q146 kn147 kr148 kx149 kb150 => ?_
    refine seqK fun Q151 kn152 kr153 ke154 => ?_
    refine region ?_
    refine st_q (v := .int .i64 ((i : Nat) : Int)) (x_move rfl) ?_
    refine st_q (v := .int .i64 (((2 * i) : Nat) : Int)) (x_mulN rfl rfl (by omega)) ?_
    refine st_q (v := .int .i64 ((((2 * i) + 1) : Nat) : Int)) (x_addN rfl rfl (by omega)) ?_
    refine st_q (v := .int .i64 ((((2 * i) + 1) : Nat) : Int)) (x_assign rfl) ?_
    refine st_nil ?_
    refine kn152 _ _ ?_
    refine seqK fun Q155 kn156 kr157 ke158 => ?_
    refine seqK fun Q159 kn160 kr161 ke162 => ?_
    refine region ?_
    refine st_q (v := .int .i64 ((((2 * i) + 1) : Nat) : Int)) (x_move rfl) ?_
    refine st_q (v := .int .i64 (((es.length - 1) : Nat) : Int)) (x_move rfl) ?_
    refine st_q (v := .bool (decide (((es.length - 1)) ≤ (((2 * i) + 1))))) (x_geqN rfl rfl) ?_
    refine st_nil ?_
    refine kn160 _ _ ?_
    refine cnd (p := ((es.length - 1)) ≤ (((2 * i) + 1))) rfl (fun h163 => ?_) (fun h163 => ?_)
    ·
      refine seqK fun Q164 kn165 kr166 ke167 => ?_
      refine region ?_
      refine st_q (v := .agg #[.int .i64 ((el es 0).1.1.1), .int .i64 ((el es 0).1.1.2), .int .i64 (((el es 0).1.2.1.val : Nat) : Int), .int .i64 (((el es 0).1.2.2 : Nat) : Int)]) (x_loadA [.int .i64 ((el es 0).1.1.1), .int .i64 ((el es 0).1.1.2), .int .i64 (((el es 0).1.2.1.val : Nat) : Int), .int .i64 (((el es 0).1.2.2 : Nat) : Int)] T.ag83 rfl (hX2.cells 0 [.int .i64 ((el es 0).1.1.1), .int .i64 ((el es 0).1.1.2), .int .i64 (((el es 0).1.2.1.val : Nat) : Int), .int .i64 (((el es 0).1.2.2 : Nat) : Int)] (cells_at rfl))) ?_
      refine st_s (e_st (v := .agg #[.int .i64 ((el es 0).1.1.1), .int .i64 ((el es 0).1.1.2), .int .i64 (((el es 0).1.2.1.val : Nat) : Int), .int .i64 (((el es 0).1.2.2 : Nat) : Int)]) T.sz83 rfl rfl hX1 (by simp [Value.cells]) (by rfl) ?_)
      intro w168 hP169
      have hB170 : Blk w168.heap w0.heap.size [.int .i64 ((el es 0).1.1.1), .int .i64 ((el es 0).1.1.2), .int .i64 (((el es 0).1.2.1.val : Nat) : Int), .int .i64 (((el es 0).1.2.2 : Nat) : Int)] 83 := hP169.new
      have hs171 := hP169.size
      have hB172 := hC1.pt hP169 (by omega)
      have hB173 := hB1.pt hP169 (by omega)
      have hB174 := hX2.pt hP169 (by omega)
      have hF175 := hO2.pt hP169 (by omega)
      have hE176 : Mod (fun k => k = b ∨ Value.ownBlock (.slice (some ⟨b1, 0, none⟩) es.length c1) = some k) w0 w168 := hx138.pt hP169 (.inr (by omega))
      have hz177 := hE176.le
      refine st_q (v := .bool true) (x_assign rfl) ?_
      refine st_nil ?_
      refine kn165 _ _ ?_
      refine ret ?_
      refine kr157 _ _ ?_
      refine kr148 _ _ ?_
      refine kr142 _ _ ?_
      refine kr132 _ _ ?_
      refine leaveCT (P := Try.prog) (fn := Try.f63) (t := 2) (u := 3) (T := 83) (b := w0.heap.size) (o := 0) (cs := [.int .i64 ((el es 0).1.1.1), .int .i64 ((el es 0).1.1.2), .int .i64 (((el es 0).1.2.1.val : Nat) : Int), .int .i64 (((el es 0).1.2.2 : Nat) : Int)]) (v := .bool true) rfl T.ag83 rfl (hB170.cells 0 [.int .i64 ((el es 0).1.1.1), .int .i64 ((el es 0).1.1.2), .int .i64 (((el es 0).1.2.1.val : Nat) : Int), .int .i64 (((el es 0).1.2.2 : Nat) : Int)] (cells_at rfl)) rfl ?_
      have hH178 := HeapR.of_ob (enE_len enH_len) hge hB173 hF175 (m := (es.length - 1)) (by omega) hLL hb1
      exact ⟨rfl, _, _, hE176, hH178, (by first | exact down_done hD (fun j h0 hj he => by omega) | exact down_stop (ah_swo cmpH_law) hD (by first | exact down_min_r (ah_swo cmpH_law) rfl (by assumption) | exact down_min_l (ah_swo cmpH_law) rfl (by first | exact .inr (by omega) | exact .inl (by assumption))) (by assumption)), hP, rfl⟩
    ·
      refine skip ?_
      refine kn156 _ _ ?_
      refine seqK fun Q179 kn180 kr181 ke182 => ?_
      refine seqK fun Q183 kn184 kr185 ke186 => ?_
      refine region ?_
      refine st_q (v := .int .i64 ((((2 * i) + 1) : Nat) : Int)) (x_move rfl) ?_
      refine st_q (v := .int .i64 (((((2 * i) + 1) + 1) : Nat) : Int)) (x_addN rfl rfl (by omega)) ?_
      refine st_q (v := .int .i64 (((es.length - 1) : Nat) : Int)) (x_move rfl) ?_
      refine st_q (v := .bool (decide (((((2 * i) + 1) + 1)) < ((es.length - 1))))) (x_lssN rfl rfl) ?_
      refine st_if (p := ((((2 * i) + 1) + 1)) < ((es.length - 1))) (x_move rfl) (fun h187 => ?_) (fun h187 => ?_)
      ·
        refine st_gq 4 62 rfl rfl (by decide) ?_
        refine st_q (v := .pointer (some ⟨b, 0, none⟩)) (x_move rfl) ?_
        refine st_gq 4 62 rfl rfl (by decide) ?_
        refine st_q (v := .int .i64 ((((2 * i) + 1) : Nat) : Int)) (x_move rfl) ?_
        refine st_gq 4 62 rfl rfl (by decide) ?_
        refine st_q (v := .int .i64 (((((2 * i) + 1) + 1) : Nat) : Int)) (x_addN rfl rfl (by omega)) ?_
        refine st_gq 4 62 rfl rfl (by decide) ?_
        refine st_q (v := .int .i64 ((((2 * i) + 1) : Nat) : Int)) (x_move rfl) ?_
        refine st_gq 4 62 rfl rfl (by decide) ?_
        have hH190 := HeapR.of_ob (enE_len enH_len) hge hB1 hO2 (m := (es.length - 1)) (by omega) hLL hb1
        refine st_c (t_call [.pointer (some ⟨b, 0, none⟩), .int .i64 (((((2 * i) + 1) + 1) : Nat) : Int), .int .i64 ((((2 * i) + 1) : Nat) : Int)] T.cf71 rfl rfl) (ahead71 lo pb b nx _ es2 ((((2 * i) + 1) + 1)) (((2 * i) + 1)) _ hC1 hH190 (by omega) (by omega)) ?_
        rintro _ w188 ⟨rfl, hx189⟩
        refine ⟨_, rfl, ?_⟩
        have hB191 := hC1.ext hx189
        have hB192 := hB1.ext hx189
        have hB193 := hX1.ext hx189
        have hB194 := hX2.ext hx189
        have hF195 := hO2.ext hx189
        have hE196 : Mod (fun k => k = b ∨ Value.ownBlock (.slice (some ⟨b1, 0, none⟩) es.length c1) = some k) w0 w188 := hx138.ext hx189
        have hz197 := hE196.le
        have hs198 := hx189.size
        refine st_q (v := .bool (decide (ah cmpH (el es2 ((((2 * i) + 1) + 1))) (el es2 (((2 * i) + 1)))))) (x_pickT rfl rfl) ?_
        refine st_nil ?_
        refine kn184 _ _ ?_
        refine cnd (p := ah cmpH (el es2 ((((2 * i) + 1) + 1))) (el es2 (((2 * i) + 1)))) rfl (fun h199 => ?_) (fun h199 => ?_)
        ·
          refine region ?_
          refine st_q (v := .int .i64 ((((2 * i) + 1) : Nat) : Int)) (x_move rfl) ?_
          refine st_q (v := .int .i64 (((((2 * i) + 1) + 1) : Nat) : Int)) (x_addN rfl rfl (by omega)) ?_
          refine st_q (v := .int .i64 (((((2 * i) + 1) + 1) : Nat) : Int)) (x_assign rfl) ?_
          refine st_nil ?_
          refine kn180 _ _ ?_
          refine seqK fun Q200 kn201 kr202 ke203 => ?_
          refine seqK fun Q204 kn205 kr206 ke207 => ?_
          refine region ?_
          refine st_q (v := .pointer (some ⟨b, 0, none⟩)) (x_move rfl) ?_
          refine st_q (v := .int .i64 (((((2 * i) + 1) + 1) : Nat) : Int)) (x_move rfl) ?_
          refine st_q (v := .int .i64 ((i : Nat) : Int)) (x_move rfl) ?_
          have hH210 := HeapR.of_ob (enE_len enH_len) hge hB192 hF195 (m := (es.length - 1)) (by omega) hLL hb1
          refine st_c (t_call [.pointer (some ⟨b, 0, none⟩), .int .i64 (((((2 * i) + 1) + 1) : Nat) : Int), .int .i64 ((i : Nat) : Int)] T.cf71 rfl rfl) (ahead71 lo pb b nx _ es2 ((((2 * i) + 1) + 1)) i _ hB191 hH210 (by omega) (by omega)) ?_
          rintro _ w208 ⟨rfl, hx209⟩
          refine ⟨_, rfl, ?_⟩
          have hB211 := hB191.ext hx209
          have hB212 := hB192.ext hx209
          have hB213 := hB193.ext hx209
          have hB214 := hB194.ext hx209
          have hF215 := hF195.ext hx209
          have hE216 : Mod (fun k => k = b ∨ Value.ownBlock (.slice (some ⟨b1, 0, none⟩) es.length c1) = some k) w0 w208 := hE196.ext hx209
          have hz217 := hE216.le
          have hs218 := hx209.size
          refine st_q (v := .bool (decide (¬ (ah cmpH (el es2 ((((2 * i) + 1) + 1))) (el es2 i))))) (x_notP rfl) ?_
          refine st_nil ?_
          refine kn205 _ _ ?_
          refine cnd (p := ¬ (ah cmpH (el es2 ((((2 * i) + 1) + 1))) (el es2 i))) rfl (fun h219 => ?_) (fun h219 => ?_)
          ·
            refine seqK fun Q220 kn221 kr222 ke223 => ?_
            refine region ?_
            refine st_q (v := .agg #[.int .i64 ((el es 0).1.1.1), .int .i64 ((el es 0).1.1.2), .int .i64 (((el es 0).1.2.1.val : Nat) : Int), .int .i64 (((el es 0).1.2.2 : Nat) : Int)]) (x_loadA [.int .i64 ((el es 0).1.1.1), .int .i64 ((el es 0).1.1.2), .int .i64 (((el es 0).1.2.1.val : Nat) : Int), .int .i64 (((el es 0).1.2.2 : Nat) : Int)] T.ag83 rfl (hB214.cells 0 [.int .i64 ((el es 0).1.1.1), .int .i64 ((el es 0).1.1.2), .int .i64 (((el es 0).1.2.1.val : Nat) : Int), .int .i64 (((el es 0).1.2.2 : Nat) : Int)] (cells_at rfl))) ?_
            refine st_s (e_st (v := .agg #[.int .i64 ((el es 0).1.1.1), .int .i64 ((el es 0).1.1.2), .int .i64 (((el es 0).1.2.1.val : Nat) : Int), .int .i64 (((el es 0).1.2.2 : Nat) : Int)]) T.sz83 rfl rfl hB213 (by simp [Value.cells]) (by rfl) ?_)
            intro w224 hP225
            have hB226 : Blk w224.heap w0.heap.size [.int .i64 ((el es 0).1.1.1), .int .i64 ((el es 0).1.1.2), .int .i64 (((el es 0).1.2.1.val : Nat) : Int), .int .i64 (((el es 0).1.2.2 : Nat) : Int)] 83 := hP225.new
            have hs227 := hP225.size
            have hB228 := hB211.pt hP225 (by omega)
            have hB229 := hB212.pt hP225 (by omega)
            have hB230 := hB214.pt hP225 (by omega)
            have hF231 := hF215.pt hP225 (by omega)
            have hE232 : Mod (fun k => k = b ∨ Value.ownBlock (.slice (some ⟨b1, 0, none⟩) es.length c1) = some k) w0 w224 := hE216.pt hP225 (.inr (by omega))
            have hz233 := hE232.le
            refine st_q (v := .bool true) (x_assign rfl) ?_
            refine st_nil ?_
            refine kn221 _ _ ?_
            refine ret ?_
            refine kr202 _ _ ?_
            refine kr148 _ _ ?_
            refine kr142 _ _ ?_
            refine kr132 _ _ ?_
            refine leaveCT (P := Try.prog) (fn := Try.f63) (t := 2) (u := 3) (T := 83) (b := w0.heap.size) (o := 0) (cs := [.int .i64 ((el es 0).1.1.1), .int .i64 ((el es 0).1.1.2), .int .i64 (((el es 0).1.2.1.val : Nat) : Int), .int .i64 (((el es 0).1.2.2 : Nat) : Int)]) (v := .bool true) rfl T.ag83 rfl (hB226.cells 0 [.int .i64 ((el es 0).1.1.1), .int .i64 ((el es 0).1.1.2), .int .i64 (((el es 0).1.2.1.val : Nat) : Int), .int .i64 (((el es 0).1.2.2 : Nat) : Int)] (cells_at rfl)) rfl ?_
            have hH234 := HeapR.of_ob (enE_len enH_len) hge hB229 hF231 (m := (es.length - 1)) (by omega) hLL hb1
            exact ⟨rfl, _, _, hE232, hH234, (by first | exact down_done hD (fun j h0 hj he => by omega) | exact down_stop (ah_swo cmpH_law) hD (by first | exact down_min_r (ah_swo cmpH_law) rfl (by assumption) | exact down_min_l (ah_swo cmpH_law) rfl (by first | exact .inr (by omega) | exact .inl (by assumption))) (by assumption)), hP, rfl⟩
          ·
            refine skip ?_
            refine kn201 _ _ ?_
            refine seqK fun Q235 kn236 kr237 ke238 => ?_
            refine regionD1 [3, 8, 13, 16, 20, 23] [0, 1, 2, 3, 4, 5, 6, 7, 8, 9, 10, 11, 12, 13, 14, 15, 16, 17, 18, 19, 20, 21, 22, 23, 24, 26] (.one 0 (.one 1 (.one 2 (.one 3 (.one 4 (.one 5 (.one 6 (.one 7 (.one 8 (.one 9 (.one 10 (.one 11 (.one 12 (.one 13 (.one 14 (.one 15 (.one 16 (.one 17 (.one 18 (.one 19 (.one 20 (.one 21 (.one 22 (.one 23 (.one 24 (.one 25 (.one 26 (.one 27 .done)))))))))))))))))))))))))))) (by kernel_rfl) (by kernel_rfl) ?_
            intro w239 hx240 hs241
            have hB242 := hB211.ext hx240
            have hB243 := hB212.ext hx240
            have hB244 := hB213.ext hx240
            have hB245 := hB214.ext hx240
            have hF246 := hF215.ext hx240
            have hE247 : Mod (fun k => k = b ∨ Value.ownBlock (.slice (some ⟨b1, 0, none⟩) es.length c1) = some k) w0 w239 := hE216.ext hx240
            have hz248 := hE247.le
            have hs249 := hx240.size
            have hS250 : Ext w239 w239 := Below.refl _ _
            refine d_q (v := .pointer (some ⟨b, 0, none⟩)) rfl rfl (fun _ => x_move rfl) ?_
            refine d_q (v := .pointer (some ⟨b, 0, none⟩)) rfl rfl (fun _ => x_nilCheck rfl) ?_
            refine d_q (v := .pointer (some ⟨b, 1, none⟩)) rfl rfl (fun _ => x_field (o := 0) T.fa98_1 rfl) ?_
            refine d_l (v := .slice ((some ⟨b1, 0, none⟩)) ((es.length - 1)) c1) rfl rfl rfl (fun v252 hw251 => x_load1 T.na96 rfl ((hB243.one 1 rfl).ext hw251)) ?_
            refine d_q (v := .int .i64 ((i : Nat) : Int)) rfl rfl (fun _ => x_move rfl) ?_
            refine d_q (v := .pointer (some ⟨b, 0, none⟩)) rfl rfl (fun _ => x_move rfl) ?_
            refine d_q (v := .pointer (some ⟨b, 0, none⟩)) rfl rfl (fun _ => x_nilCheck rfl) ?_
            refine d_q (v := .pointer (some ⟨b, 1, none⟩)) rfl rfl (fun _ => x_field (o := 0) T.fa98_1 rfl) ?_
            refine d_l (v := .slice ((some ⟨b1, 0, none⟩)) ((es.length - 1)) c1) rfl rfl rfl (fun v254 hw253 => x_load1 T.na96 rfl ((hB243.one 1 rfl).ext hw253)) ?_
            refine d_q (v := .int .i64 (((((2 * i) + 1) + 1) : Nat) : Int)) rfl rfl (fun _ => x_move rfl) ?_
            refine d_q (v := .pointer (some ⟨b, 0, none⟩)) rfl rfl (fun _ => x_move rfl) ?_
            refine d_q (v := .pointer (some ⟨b, 0, none⟩)) rfl rfl (fun _ => x_nilCheck rfl) ?_
            refine d_q (v := .pointer (some ⟨b, 1, none⟩)) rfl rfl (fun _ => x_field (o := 0) T.fa98_1 rfl) ?_
            refine d_l (v := .slice ((some ⟨b1, 0, none⟩)) ((es.length - 1)) c1) rfl rfl rfl (fun v256 hw255 => x_load1 T.na96 rfl ((hB243.one 1 rfl).ext hw255)) ?_
            refine d_q (v := .int .i64 (((((2 * i) + 1) + 1) : Nat) : Int)) rfl rfl (fun _ => x_move rfl) ?_
            refine d_q (v := .pointer (some ⟨b1, 0 + ((((2 * i) + 1) + 1)) * 5, none⟩)) rfl rfl (fun _ => x_index T.sl96 rfl rfl (by omega)) ?_
            refine d_l (v := .agg #[.int .i64 ((el es2 ((((2 * i) + 1) + 1))).1.1.1), .int .i64 ((el es2 ((((2 * i) + 1) + 1))).1.1.2), .int .i64 (((el es2 ((((2 * i) + 1) + 1))).1.2.1.val : Nat) : Int), .int .i64 (((el es2 ((((2 * i) + 1) + 1))).1.2.2 : Nat) : Int), .int .i64 (((el es2 ((((2 * i) + 1) + 1))).2 : Nat) : Int)]) rfl rfl rfl (fun v258 hw257 => x_loadA [.int .i64 ((el es2 ((((2 * i) + 1) + 1))).1.1.1), .int .i64 ((el es2 ((((2 * i) + 1) + 1))).1.1.2), .int .i64 (((el es2 ((((2 * i) + 1) + 1))).1.2.1.val : Nat) : Int), .int .i64 (((el es2 ((((2 * i) + 1) + 1))).1.2.2 : Nat) : Int), .int .i64 (((el es2 ((((2 * i) + 1) + 1))).2 : Nat) : Int)] T.ag100 rfl ((hF246.cells.elem (enE_len enH_len) (i := (((2 * i) + 1) + 1)) (by omega)).ext hw257)) ?_
            refine d_q (v := .pointer (some ⟨b, 0, none⟩)) rfl rfl (fun _ => x_move rfl) ?_
            refine d_q (v := .pointer (some ⟨b, 0, none⟩)) rfl rfl (fun _ => x_nilCheck rfl) ?_
            refine d_q (v := .pointer (some ⟨b, 1, none⟩)) rfl rfl (fun _ => x_field (o := 0) T.fa98_1 rfl) ?_
            refine d_l (v := .slice ((some ⟨b1, 0, none⟩)) ((es.length - 1)) c1) rfl rfl rfl (fun v260 hw259 => x_load1 T.na96 rfl ((hB243.one 1 rfl).ext hw259)) ?_
            refine d_q (v := .int .i64 ((i : Nat) : Int)) rfl rfl (fun _ => x_move rfl) ?_
            refine d_q (v := .pointer (some ⟨b1, 0 + i * 5, none⟩)) rfl rfl (fun _ => x_index T.sl96 rfl rfl (by omega)) ?_
            refine d_l (v := .agg #[.int .i64 ((el es2 i).1.1.1), .int .i64 ((el es2 i).1.1.2), .int .i64 (((el es2 i).1.2.1.val : Nat) : Int), .int .i64 (((el es2 i).1.2.2 : Nat) : Int), .int .i64 (((el es2 i).2 : Nat) : Int)]) rfl rfl rfl (fun v262 hw261 => x_loadA [.int .i64 ((el es2 i).1.1.1), .int .i64 ((el es2 i).1.1.2), .int .i64 (((el es2 i).1.2.1.val : Nat) : Int), .int .i64 (((el es2 i).1.2.2 : Nat) : Int), .int .i64 (((el es2 i).2 : Nat) : Int)] T.ag100 rfl ((hF246.cells.elem (enE_len enH_len) (i := i) (by omega)).ext hw261)) ?_
            refine d_q (v := .pointer (some ⟨b1, 0 + i * 5, none⟩)) rfl rfl (fun _ => x_index T.sl96 rfl rfl (by omega)) ?_
            refine d_e (by decide) (d_s' rfl rfl (e_stO (v := .agg #[.int .i64 ((el es2 ((((2 * i) + 1) + 1))).1.1.1), .int .i64 ((el es2 ((((2 * i) + 1) + 1))).1.1.2), .int .i64 (((el es2 ((((2 * i) + 1) + 1))).1.2.1.val : Nat) : Int), .int .i64 (((el es2 ((((2 * i) + 1) + 1))).1.2.2 : Nat) : Int), .int .i64 (((el es2 ((((2 * i) + 1) + 1))).2 : Nat) : Int)]) (u := (el es2 ((((2 * i) + 1) + 1)))) (enE_len enH_len) T.sz100 rfl rfl rfl hF246 (by first | omega | (rw [List.length_set]; omega)) (by rfl) ?_))
            intro w263 _ hP264 hB265
            have hs266 := hP264.size
            have hB267 := hB242.pt hP264 (by omega)
            have hB268 := hB243.pt hP264 (by omega)
            have hB269 := hB244.pt hP264 (by omega)
            have hB270 := hB245.pt hP264 (by omega)
            have hE271 : Mod (fun k => k = b ∨ Value.ownBlock (.slice (some ⟨b1, 0, none⟩) es.length c1) = some k) w0 w263 := hE247.pt hP264 (.inl (.inr rfl))
            have hz272 := hE271.le
            refine ⟨need_no (by kernel_rfl), ?_⟩
            refine d_q (v := .pointer (some ⟨b1, 0 + ((((2 * i) + 1) + 1)) * 5, none⟩)) rfl rfl (fun _ => x_index T.sl96 rfl rfl (by omega)) ?_
            refine d_e (by decide) (d_s' rfl rfl (e_stO (v := .agg #[.int .i64 ((el es2 i).1.1.1), .int .i64 ((el es2 i).1.1.2), .int .i64 (((el es2 i).1.2.1.val : Nat) : Int), .int .i64 (((el es2 i).1.2.2 : Nat) : Int), .int .i64 (((el es2 i).2 : Nat) : Int)]) (u := (el es2 i)) (enE_len enH_len) T.sz100 rfl rfl rfl hB265 (by first | omega | (rw [List.length_set]; omega)) (by rfl) ?_))
            intro w273 _ hP274 hB275
            have hs276 := hP274.size
            have hB277 := hB267.pt hP274 (by omega)
            have hB278 := hB268.pt hP274 (by omega)
            have hB279 := hB269.pt hP274 (by omega)
            have hB280 := hB270.pt hP274 (by omega)
            have hE281 : Mod (fun k => k = b ∨ Value.ownBlock (.slice (some ⟨b1, 0, none⟩) es.length c1) = some k) w0 w273 := hE271.pt hP274 (.inl (.inr rfl))
            have hz282 := hE281.le
            refine ⟨need_no (by kernel_rfl), ?_⟩
            refine d_done ?_
            refine kn236 _ _ ?_
            refine region ?_
            refine st_q (v := .int .i64 (((((2 * i) + 1) + 1) : Nat) : Int)) (x_move rfl) ?_
            refine st_q (v := .int .i64 (((((2 * i) + 1) + 1) : Nat) : Int)) (x_assign rfl) ?_
            refine st_nil ?_
            refine kn147 _ _ ?_
            refine kn141 _ ((((2 * i) + 1) + 1), (swap es2 i ((((2 * i) + 1) + 1)))) _ ⟨rfl, rfl, rfl, rfl, rfl, trivial⟩ ⟨hE281, ?_⟩ ?_
            ·
              try dsimp only
              exact ⟨hB277, hB278, hB275, hB279, hB280, by rw [swap_length]; exact hLL, by omega, down_step (ah_swo cmpH_law) hD (by omega) (by omega) (by omega) (Decidable.of_not_not (by assumption)) (by first | exact down_min_r (ah_swo cmpH_law) rfl (by assumption) | exact down_min_l (ah_swo cmpH_law) rfl (by first | exact .inr (by omega) | exact .inl (by assumption))), hP.trans (List.Perm.cons _ (swap_perm (by omega) (by omega)).symm)⟩
            ·
              (try dsimp only); omega
        ·
          refine skip ?_
          refine kn180 _ _ ?_
          refine seqK fun Q283 kn284 kr285 ke286 => ?_
          refine seqK fun Q287 kn288 kr289 ke290 => ?_
          refine region ?_
          refine st_q (v := .pointer (some ⟨b, 0, none⟩)) (x_move rfl) ?_
          refine st_q (v := .int .i64 ((((2 * i) + 1) : Nat) : Int)) (x_move rfl) ?_
          refine st_q (v := .int .i64 ((i : Nat) : Int)) (x_move rfl) ?_
          have hH293 := HeapR.of_ob (enE_len enH_len) hge hB192 hF195 (m := (es.length - 1)) (by omega) hLL hb1
          refine st_c (t_call [.pointer (some ⟨b, 0, none⟩), .int .i64 ((((2 * i) + 1) : Nat) : Int), .int .i64 ((i : Nat) : Int)] T.cf71 rfl rfl) (ahead71 lo pb b nx _ es2 (((2 * i) + 1)) i _ hB191 hH293 (by omega) (by omega)) ?_
          rintro _ w291 ⟨rfl, hx292⟩
          refine ⟨_, rfl, ?_⟩
          have hB294 := hB191.ext hx292
          have hB295 := hB192.ext hx292
          have hB296 := hB193.ext hx292
          have hB297 := hB194.ext hx292
          have hF298 := hF195.ext hx292
          have hE299 : Mod (fun k => k = b ∨ Value.ownBlock (.slice (some ⟨b1, 0, none⟩) es.length c1) = some k) w0 w291 := hE196.ext hx292
          have hz300 := hE299.le
          have hs301 := hx292.size
          refine st_q (v := .bool (decide (¬ (ah cmpH (el es2 (((2 * i) + 1))) (el es2 i))))) (x_notP rfl) ?_
          refine st_nil ?_
          refine kn288 _ _ ?_
          refine cnd (p := ¬ (ah cmpH (el es2 (((2 * i) + 1))) (el es2 i))) rfl (fun h302 => ?_) (fun h302 => ?_)
          ·
            refine seqK fun Q303 kn304 kr305 ke306 => ?_
            refine region ?_
            refine st_q (v := .agg #[.int .i64 ((el es 0).1.1.1), .int .i64 ((el es 0).1.1.2), .int .i64 (((el es 0).1.2.1.val : Nat) : Int), .int .i64 (((el es 0).1.2.2 : Nat) : Int)]) (x_loadA [.int .i64 ((el es 0).1.1.1), .int .i64 ((el es 0).1.1.2), .int .i64 (((el es 0).1.2.1.val : Nat) : Int), .int .i64 (((el es 0).1.2.2 : Nat) : Int)] T.ag83 rfl (hB297.cells 0 [.int .i64 ((el es 0).1.1.1), .int .i64 ((el es 0).1.1.2), .int .i64 (((el es 0).1.2.1.val : Nat) : Int), .int .i64 (((el es 0).1.2.2 : Nat) : Int)] (cells_at rfl))) ?_
            refine st_s (e_st (v := .agg #[.int .i64 ((el es 0).1.1.1), .int .i64 ((el es 0).1.1.2), .int .i64 (((el es 0).1.2.1.val : Nat) : Int), .int .i64 (((el es 0).1.2.2 : Nat) : Int)]) T.sz83 rfl rfl hB296 (by simp [Value.cells]) (by rfl) ?_)
            intro w307 hP308
            have hB309 : Blk w307.heap w0.heap.size [.int .i64 ((el es 0).1.1.1), .int .i64 ((el es 0).1.1.2), .int .i64 (((el es 0).1.2.1.val : Nat) : Int), .int .i64 (((el es 0).1.2.2 : Nat) : Int)] 83 := hP308.new
            have hs310 := hP308.size
            have hB311 := hB294.pt hP308 (by omega)
            have hB312 := hB295.pt hP308 (by omega)
            have hB313 := hB297.pt hP308 (by omega)
            have hF314 := hF298.pt hP308 (by omega)
            have hE315 : Mod (fun k => k = b ∨ Value.ownBlock (.slice (some ⟨b1, 0, none⟩) es.length c1) = some k) w0 w307 := hE299.pt hP308 (.inr (by omega))
            have hz316 := hE315.le
            refine st_q (v := .bool true) (x_assign rfl) ?_
            refine st_nil ?_
            refine kn304 _ _ ?_
            refine ret ?_
            refine kr285 _ _ ?_
            refine kr148 _ _ ?_
            refine kr142 _ _ ?_
            refine kr132 _ _ ?_
            refine leaveCT (P := Try.prog) (fn := Try.f63) (t := 2) (u := 3) (T := 83) (b := w0.heap.size) (o := 0) (cs := [.int .i64 ((el es 0).1.1.1), .int .i64 ((el es 0).1.1.2), .int .i64 (((el es 0).1.2.1.val : Nat) : Int), .int .i64 (((el es 0).1.2.2 : Nat) : Int)]) (v := .bool true) rfl T.ag83 rfl (hB309.cells 0 [.int .i64 ((el es 0).1.1.1), .int .i64 ((el es 0).1.1.2), .int .i64 (((el es 0).1.2.1.val : Nat) : Int), .int .i64 (((el es 0).1.2.2 : Nat) : Int)] (cells_at rfl)) rfl ?_
            have hH317 := HeapR.of_ob (enE_len enH_len) hge hB312 hF314 (m := (es.length - 1)) (by omega) hLL hb1
            exact ⟨rfl, _, _, hE315, hH317, (by first | exact down_done hD (fun j h0 hj he => by omega) | exact down_stop (ah_swo cmpH_law) hD (by first | exact down_min_r (ah_swo cmpH_law) rfl (by assumption) | exact down_min_l (ah_swo cmpH_law) rfl (by first | exact .inr (by omega) | exact .inl (by assumption))) (by assumption)), hP, rfl⟩
          ·
            refine skip ?_
            refine kn284 _ _ ?_
            refine seqK fun Q318 kn319 kr320 ke321 => ?_
            refine regionD1 [3, 8, 13, 16, 20, 23] [0, 1, 2, 3, 4, 5, 6, 7, 8, 9, 10, 11, 12, 13, 14, 15, 16, 17, 18, 19, 20, 21, 22, 23, 24, 26] (.one 0 (.one 1 (.one 2 (.one 3 (.one 4 (.one 5 (.one 6 (.one 7 (.one 8 (.one 9 (.one 10 (.one 11 (.one 12 (.one 13 (.one 14 (.one 15 (.one 16 (.one 17 (.one 18 (.one 19 (.one 20 (.one 21 (.one 22 (.one 23 (.one 24 (.one 25 (.one 26 (.one 27 .done)))))))))))))))))))))))))))) (by kernel_rfl) (by kernel_rfl) ?_
            intro w322 hx323 hs324
            have hB325 := hB294.ext hx323
            have hB326 := hB295.ext hx323
            have hB327 := hB296.ext hx323
            have hB328 := hB297.ext hx323
            have hF329 := hF298.ext hx323
            have hE330 : Mod (fun k => k = b ∨ Value.ownBlock (.slice (some ⟨b1, 0, none⟩) es.length c1) = some k) w0 w322 := hE299.ext hx323
            have hz331 := hE330.le
            have hs332 := hx323.size
            have hS333 : Ext w322 w322 := Below.refl _ _
            refine d_q (v := .pointer (some ⟨b, 0, none⟩)) rfl rfl (fun _ => x_move rfl) ?_
            refine d_q (v := .pointer (some ⟨b, 0, none⟩)) rfl rfl (fun _ => x_nilCheck rfl) ?_
            refine d_q (v := .pointer (some ⟨b, 1, none⟩)) rfl rfl (fun _ => x_field (o := 0) T.fa98_1 rfl) ?_
            refine d_l (v := .slice ((some ⟨b1, 0, none⟩)) ((es.length - 1)) c1) rfl rfl rfl (fun v335 hw334 => x_load1 T.na96 rfl ((hB326.one 1 rfl).ext hw334)) ?_
            refine d_q (v := .int .i64 ((i : Nat) : Int)) rfl rfl (fun _ => x_move rfl) ?_
            refine d_q (v := .pointer (some ⟨b, 0, none⟩)) rfl rfl (fun _ => x_move rfl) ?_
            refine d_q (v := .pointer (some ⟨b, 0, none⟩)) rfl rfl (fun _ => x_nilCheck rfl) ?_
            refine d_q (v := .pointer (some ⟨b, 1, none⟩)) rfl rfl (fun _ => x_field (o := 0) T.fa98_1 rfl) ?_
            refine d_l (v := .slice ((some ⟨b1, 0, none⟩)) ((es.length - 1)) c1) rfl rfl rfl (fun v337 hw336 => x_load1 T.na96 rfl ((hB326.one 1 rfl).ext hw336)) ?_
            refine d_q (v := .int .i64 ((((2 * i) + 1) : Nat) : Int)) rfl rfl (fun _ => x_move rfl) ?_
            refine d_q (v := .pointer (some ⟨b, 0, none⟩)) rfl rfl (fun _ => x_move rfl) ?_
            refine d_q (v := .pointer (some ⟨b, 0, none⟩)) rfl rfl (fun _ => x_nilCheck rfl) ?_
            refine d_q (v := .pointer (some ⟨b, 1, none⟩)) rfl rfl (fun _ => x_field (o := 0) T.fa98_1 rfl) ?_
            refine d_l (v := .slice ((some ⟨b1, 0, none⟩)) ((es.length - 1)) c1) rfl rfl rfl (fun v339 hw338 => x_load1 T.na96 rfl ((hB326.one 1 rfl).ext hw338)) ?_
            refine d_q (v := .int .i64 ((((2 * i) + 1) : Nat) : Int)) rfl rfl (fun _ => x_move rfl) ?_
            refine d_q (v := .pointer (some ⟨b1, 0 + (((2 * i) + 1)) * 5, none⟩)) rfl rfl (fun _ => x_index T.sl96 rfl rfl (by omega)) ?_
            refine d_l (v := .agg #[.int .i64 ((el es2 (((2 * i) + 1))).1.1.1), .int .i64 ((el es2 (((2 * i) + 1))).1.1.2), .int .i64 (((el es2 (((2 * i) + 1))).1.2.1.val : Nat) : Int), .int .i64 (((el es2 (((2 * i) + 1))).1.2.2 : Nat) : Int), .int .i64 (((el es2 (((2 * i) + 1))).2 : Nat) : Int)]) rfl rfl rfl (fun v341 hw340 => x_loadA [.int .i64 ((el es2 (((2 * i) + 1))).1.1.1), .int .i64 ((el es2 (((2 * i) + 1))).1.1.2), .int .i64 (((el es2 (((2 * i) + 1))).1.2.1.val : Nat) : Int), .int .i64 (((el es2 (((2 * i) + 1))).1.2.2 : Nat) : Int), .int .i64 (((el es2 (((2 * i) + 1))).2 : Nat) : Int)] T.ag100 rfl ((hF329.cells.elem (enE_len enH_len) (i := ((2 * i) + 1)) (by omega)).ext hw340)) ?_
            refine d_q (v := .pointer (some ⟨b, 0, none⟩)) rfl rfl (fun _ => x_move rfl) ?_
            refine d_q (v := .pointer (some ⟨b, 0, none⟩)) rfl rfl (fun _ => x_nilCheck rfl) ?_
            refine d_q (v := .pointer (some ⟨b, 1, none⟩)) rfl rfl (fun _ => x_field (o := 0) T.fa98_1 rfl) ?_
            refine d_l (v := .slice ((some ⟨b1, 0, none⟩)) ((es.length - 1)) c1) rfl rfl rfl (fun v343 hw342 => x_load1 T.na96 rfl ((hB326.one 1 rfl).ext hw342)) ?_
            refine d_q (v := .int .i64 ((i : Nat) : Int)) rfl rfl (fun _ => x_move rfl) ?_
            refine d_q (v := .pointer (some ⟨b1, 0 + i * 5, none⟩)) rfl rfl (fun _ => x_index T.sl96 rfl rfl (by omega)) ?_
            refine d_l (v := .agg #[.int .i64 ((el es2 i).1.1.1), .int .i64 ((el es2 i).1.1.2), .int .i64 (((el es2 i).1.2.1.val : Nat) : Int), .int .i64 (((el es2 i).1.2.2 : Nat) : Int), .int .i64 (((el es2 i).2 : Nat) : Int)]) rfl rfl rfl (fun v345 hw344 => x_loadA [.int .i64 ((el es2 i).1.1.1), .int .i64 ((el es2 i).1.1.2), .int .i64 (((el es2 i).1.2.1.val : Nat) : Int), .int .i64 (((el es2 i).1.2.2 : Nat) : Int), .int .i64 (((el es2 i).2 : Nat) : Int)] T.ag100 rfl ((hF329.cells.elem (enE_len enH_len) (i := i) (by omega)).ext hw344)) ?_
            refine d_q (v := .pointer (some ⟨b1, 0 + i * 5, none⟩)) rfl rfl (fun _ => x_index T.sl96 rfl rfl (by omega)) ?_
            refine d_e (by decide) (d_s' rfl rfl (e_stO (v := .agg #[.int .i64 ((el es2 (((2 * i) + 1))).1.1.1), .int .i64 ((el es2 (((2 * i) + 1))).1.1.2), .int .i64 (((el es2 (((2 * i) + 1))).1.2.1.val : Nat) : Int), .int .i64 (((el es2 (((2 * i) + 1))).1.2.2 : Nat) : Int), .int .i64 (((el es2 (((2 * i) + 1))).2 : Nat) : Int)]) (u := (el es2 (((2 * i) + 1)))) (enE_len enH_len) T.sz100 rfl rfl rfl hF329 (by first | omega | (rw [List.length_set]; omega)) (by rfl) ?_))
            intro w346 _ hP347 hB348
            have hs349 := hP347.size
            have hB350 := hB325.pt hP347 (by omega)
            have hB351 := hB326.pt hP347 (by omega)
            have hB352 := hB327.pt hP347 (by omega)
            have hB353 := hB328.pt hP347 (by omega)
            have hE354 : Mod (fun k => k = b ∨ Value.ownBlock (.slice (some ⟨b1, 0, none⟩) es.length c1) = some k) w0 w346 := hE330.pt hP347 (.inl (.inr rfl))
            have hz355 := hE354.le
            refine ⟨need_no (by kernel_rfl), ?_⟩
            refine d_q (v := .pointer (some ⟨b1, 0 + (((2 * i) + 1)) * 5, none⟩)) rfl rfl (fun _ => x_index T.sl96 rfl rfl (by omega)) ?_
            refine d_e (by decide) (d_s' rfl rfl (e_stO (v := .agg #[.int .i64 ((el es2 i).1.1.1), .int .i64 ((el es2 i).1.1.2), .int .i64 (((el es2 i).1.2.1.val : Nat) : Int), .int .i64 (((el es2 i).1.2.2 : Nat) : Int), .int .i64 (((el es2 i).2 : Nat) : Int)]) (u := (el es2 i)) (enE_len enH_len) T.sz100 rfl rfl rfl hB348 (by first | omega | (rw [List.length_set]; omega)) (by rfl) ?_))
            intro w356 _ hP357 hB358
            have hs359 := hP357.size
            have hB360 := hB350.pt hP357 (by omega)
            have hB361 := hB351.pt hP357 (by omega)
            have hB362 := hB352.pt hP357 (by omega)
            have hB363 := hB353.pt hP357 (by omega)
            have hE364 : Mod (fun k => k = b ∨ Value.ownBlock (.slice (some ⟨b1, 0, none⟩) es.length c1) = some k) w0 w356 := hE354.pt hP357 (.inl (.inr rfl))
            have hz365 := hE364.le
            refine ⟨need_no (by kernel_rfl), ?_⟩
            refine d_done ?_
            refine kn319 _ _ ?_
            refine region ?_
            refine st_q (v := .int .i64 ((((2 * i) + 1) : Nat) : Int)) (x_move rfl) ?_
            refine st_q (v := .int .i64 ((((2 * i) + 1) : Nat) : Int)) (x_assign rfl) ?_
            refine st_nil ?_
            refine kn147 _ _ ?_
            refine kn141 _ (((2 * i) + 1), (swap es2 i (((2 * i) + 1)))) _ ⟨rfl, rfl, rfl, rfl, rfl, trivial⟩ ⟨hE364, ?_⟩ ?_
            ·
              try dsimp only
              exact ⟨hB360, hB361, hB358, hB362, hB363, by rw [swap_length]; exact hLL, by omega, down_step (ah_swo cmpH_law) hD (by omega) (by omega) (by omega) (Decidable.of_not_not (by assumption)) (by first | exact down_min_r (ah_swo cmpH_law) rfl (by assumption) | exact down_min_l (ah_swo cmpH_law) rfl (by first | exact .inr (by omega) | exact .inl (by assumption))), hP.trans (List.Perm.cons _ (swap_perm (by omega) (by omega)).symm)⟩
            ·
              (try dsimp only); omega
      ·
        refine st_gn 4 62 rfl rfl (by decide) rfl ?_
        refine st_gn 4 62 rfl rfl (by decide) rfl ?_
        refine st_gn 4 62 rfl rfl (by decide) rfl ?_
        refine st_gn 4 62 rfl rfl (by decide) rfl ?_
        refine st_gn 4 62 rfl rfl (by decide) rfl ?_
        refine st_q (v := .bool false) (x_pickF rfl rfl) ?_
        refine st_nil ?_
        refine kn184 _ _ ?_
        refine cndF rfl ?_
        refine skip ?_
        refine kn180 _ _ ?_
        refine seqK fun Q366 kn367 kr368 ke369 => ?_
        refine seqK fun Q370 kn371 kr372 ke373 => ?_
        refine region ?_
        refine st_q (v := .pointer (some ⟨b, 0, none⟩)) (x_move rfl) ?_
        refine st_q (v := .int .i64 ((((2 * i) + 1) : Nat) : Int)) (x_move rfl) ?_
        refine st_q (v := .int .i64 ((i : Nat) : Int)) (x_move rfl) ?_
        have hH376 := HeapR.of_ob (enE_len enH_len) hge hB1 hO2 (m := (es.length - 1)) (by omega) hLL hb1
        refine st_c (t_call [.pointer (some ⟨b, 0, none⟩), .int .i64 ((((2 * i) + 1) : Nat) : Int), .int .i64 ((i : Nat) : Int)] T.cf71 rfl rfl) (ahead71 lo pb b nx _ es2 (((2 * i) + 1)) i _ hC1 hH376 (by omega) (by omega)) ?_
        rintro _ w374 ⟨rfl, hx375⟩
        refine ⟨_, rfl, ?_⟩
        have hB377 := hC1.ext hx375
        have hB378 := hB1.ext hx375
        have hB379 := hX1.ext hx375
        have hB380 := hX2.ext hx375
        have hF381 := hO2.ext hx375
        have hE382 : Mod (fun k => k = b ∨ Value.ownBlock (.slice (some ⟨b1, 0, none⟩) es.length c1) = some k) w0 w374 := hx138.ext hx375
        have hz383 := hE382.le
        have hs384 := hx375.size
        refine st_q (v := .bool (decide (¬ (ah cmpH (el es2 (((2 * i) + 1))) (el es2 i))))) (x_notP rfl) ?_
        refine st_nil ?_
        refine kn371 _ _ ?_
        refine cnd (p := ¬ (ah cmpH (el es2 (((2 * i) + 1))) (el es2 i))) rfl (fun h385 => ?_) (fun h385 => ?_)
        ·
          refine seqK fun Q386 kn387 kr388 ke389 => ?_
          refine region ?_
          refine st_q (v := .agg #[.int .i64 ((el es 0).1.1.1), .int .i64 ((el es 0).1.1.2), .int .i64 (((el es 0).1.2.1.val : Nat) : Int), .int .i64 (((el es 0).1.2.2 : Nat) : Int)]) (x_loadA [.int .i64 ((el es 0).1.1.1), .int .i64 ((el es 0).1.1.2), .int .i64 (((el es 0).1.2.1.val : Nat) : Int), .int .i64 (((el es 0).1.2.2 : Nat) : Int)] T.ag83 rfl (hB380.cells 0 [.int .i64 ((el es 0).1.1.1), .int .i64 ((el es 0).1.1.2), .int .i64 (((el es 0).1.2.1.val : Nat) : Int), .int .i64 (((el es 0).1.2.2 : Nat) : Int)] (cells_at rfl))) ?_
          refine st_s (e_st (v := .agg #[.int .i64 ((el es 0).1.1.1), .int .i64 ((el es 0).1.1.2), .int .i64 (((el es 0).1.2.1.val : Nat) : Int), .int .i64 (((el es 0).1.2.2 : Nat) : Int)]) T.sz83 rfl rfl hB379 (by simp [Value.cells]) (by rfl) ?_)
          intro w390 hP391
          have hB392 : Blk w390.heap w0.heap.size [.int .i64 ((el es 0).1.1.1), .int .i64 ((el es 0).1.1.2), .int .i64 (((el es 0).1.2.1.val : Nat) : Int), .int .i64 (((el es 0).1.2.2 : Nat) : Int)] 83 := hP391.new
          have hs393 := hP391.size
          have hB394 := hB377.pt hP391 (by omega)
          have hB395 := hB378.pt hP391 (by omega)
          have hB396 := hB380.pt hP391 (by omega)
          have hF397 := hF381.pt hP391 (by omega)
          have hE398 : Mod (fun k => k = b ∨ Value.ownBlock (.slice (some ⟨b1, 0, none⟩) es.length c1) = some k) w0 w390 := hE382.pt hP391 (.inr (by omega))
          have hz399 := hE398.le
          refine st_q (v := .bool true) (x_assign rfl) ?_
          refine st_nil ?_
          refine kn387 _ _ ?_
          refine ret ?_
          refine kr368 _ _ ?_
          refine kr148 _ _ ?_
          refine kr142 _ _ ?_
          refine kr132 _ _ ?_
          refine leaveCT (P := Try.prog) (fn := Try.f63) (t := 2) (u := 3) (T := 83) (b := w0.heap.size) (o := 0) (cs := [.int .i64 ((el es 0).1.1.1), .int .i64 ((el es 0).1.1.2), .int .i64 (((el es 0).1.2.1.val : Nat) : Int), .int .i64 (((el es 0).1.2.2 : Nat) : Int)]) (v := .bool true) rfl T.ag83 rfl (hB392.cells 0 [.int .i64 ((el es 0).1.1.1), .int .i64 ((el es 0).1.1.2), .int .i64 (((el es 0).1.2.1.val : Nat) : Int), .int .i64 (((el es 0).1.2.2 : Nat) : Int)] (cells_at rfl)) rfl ?_
          have hH400 := HeapR.of_ob (enE_len enH_len) hge hB395 hF397 (m := (es.length - 1)) (by omega) hLL hb1
          exact ⟨rfl, _, _, hE398, hH400, (by first | exact down_done hD (fun j h0 hj he => by omega) | exact down_stop (ah_swo cmpH_law) hD (by first | exact down_min_r (ah_swo cmpH_law) rfl (by assumption) | exact down_min_l (ah_swo cmpH_law) rfl (by first | exact .inr (by omega) | exact .inl (by assumption))) (by assumption)), hP, rfl⟩
        ·
          refine skip ?_
          refine kn367 _ _ ?_
          refine seqK fun Q401 kn402 kr403 ke404 => ?_
          refine regionD1 [3, 8, 13, 16, 20, 23] [0, 1, 2, 3, 4, 5, 6, 7, 8, 9, 10, 11, 12, 13, 14, 15, 16, 17, 18, 19, 20, 21, 22, 23, 24, 26] (.one 0 (.one 1 (.one 2 (.one 3 (.one 4 (.one 5 (.one 6 (.one 7 (.one 8 (.one 9 (.one 10 (.one 11 (.one 12 (.one 13 (.one 14 (.one 15 (.one 16 (.one 17 (.one 18 (.one 19 (.one 20 (.one 21 (.one 22 (.one 23 (.one 24 (.one 25 (.one 26 (.one 27 .done)))))))))))))))))))))))))))) (by kernel_rfl) (by kernel_rfl) ?_
          intro w405 hx406 hs407
          have hB408 := hB377.ext hx406
          have hB409 := hB378.ext hx406
          have hB410 := hB379.ext hx406
          have hB411 := hB380.ext hx406
          have hF412 := hF381.ext hx406
          have hE413 : Mod (fun k => k = b ∨ Value.ownBlock (.slice (some ⟨b1, 0, none⟩) es.length c1) = some k) w0 w405 := hE382.ext hx406
          have hz414 := hE413.le
          have hs415 := hx406.size
          have hS416 : Ext w405 w405 := Below.refl _ _
          refine d_q (v := .pointer (some ⟨b, 0, none⟩)) rfl rfl (fun _ => x_move rfl) ?_
          refine d_q (v := .pointer (some ⟨b, 0, none⟩)) rfl rfl (fun _ => x_nilCheck rfl) ?_
          refine d_q (v := .pointer (some ⟨b, 1, none⟩)) rfl rfl (fun _ => x_field (o := 0) T.fa98_1 rfl) ?_
          refine d_l (v := .slice ((some ⟨b1, 0, none⟩)) ((es.length - 1)) c1) rfl rfl rfl (fun v418 hw417 => x_load1 T.na96 rfl ((hB409.one 1 rfl).ext hw417)) ?_
          refine d_q (v := .int .i64 ((i : Nat) : Int)) rfl rfl (fun _ => x_move rfl) ?_
          refine d_q (v := .pointer (some ⟨b, 0, none⟩)) rfl rfl (fun _ => x_move rfl) ?_
          refine d_q (v := .pointer (some ⟨b, 0, none⟩)) rfl rfl (fun _ => x_nilCheck rfl) ?_
          refine d_q (v := .pointer (some ⟨b, 1, none⟩)) rfl rfl (fun _ => x_field (o := 0) T.fa98_1 rfl) ?_
          refine d_l (v := .slice ((some ⟨b1, 0, none⟩)) ((es.length - 1)) c1) rfl rfl rfl (fun v420 hw419 => x_load1 T.na96 rfl ((hB409.one 1 rfl).ext hw419)) ?_
          refine d_q (v := .int .i64 ((((2 * i) + 1) : Nat) : Int)) rfl rfl (fun _ => x_move rfl) ?_
          refine d_q (v := .pointer (some ⟨b, 0, none⟩)) rfl rfl (fun _ => x_move rfl) ?_
          refine d_q (v := .pointer (some ⟨b, 0, none⟩)) rfl rfl (fun _ => x_nilCheck rfl) ?_
          refine d_q (v := .pointer (some ⟨b, 1, none⟩)) rfl rfl (fun _ => x_field (o := 0) T.fa98_1 rfl) ?_
          refine d_l (v := .slice ((some ⟨b1, 0, none⟩)) ((es.length - 1)) c1) rfl rfl rfl (fun v422 hw421 => x_load1 T.na96 rfl ((hB409.one 1 rfl).ext hw421)) ?_
          refine d_q (v := .int .i64 ((((2 * i) + 1) : Nat) : Int)) rfl rfl (fun _ => x_move rfl) ?_
          refine d_q (v := .pointer (some ⟨b1, 0 + (((2 * i) + 1)) * 5, none⟩)) rfl rfl (fun _ => x_index T.sl96 rfl rfl (by omega)) ?_
          refine d_l (v := .agg #[.int .i64 ((el es2 (((2 * i) + 1))).1.1.1), .int .i64 ((el es2 (((2 * i) + 1))).1.1.2), .int .i64 (((el es2 (((2 * i) + 1))).1.2.1.val : Nat) : Int), .int .i64 (((el es2 (((2 * i) + 1))).1.2.2 : Nat) : Int), .int .i64 (((el es2 (((2 * i) + 1))).2 : Nat) : Int)]) rfl rfl rfl (fun v424 hw423 => x_loadA [.int .i64 ((el es2 (((2 * i) + 1))).1.1.1), .int .i64 ((el es2 (((2 * i) + 1))).1.1.2), .int .i64 (((el es2 (((2 * i) + 1))).1.2.1.val : Nat) : Int), .int .i64 (((el es2 (((2 * i) + 1))).1.2.2 : Nat) : Int), .int .i64 (((el es2 (((2 * i) + 1))).2 : Nat) : Int)] T.ag100 rfl ((hF412.cells.elem (enE_len enH_len) (i := ((2 * i) + 1)) (by omega)).ext hw423)) ?_
          refine d_q (v := .pointer (some ⟨b, 0, none⟩)) rfl rfl (fun _ => x_move rfl) ?_
          refine d_q (v := .pointer (some ⟨b, 0, none⟩)) rfl rfl (fun _ => x_nilCheck rfl) ?_
          refine d_q (v := .pointer (some ⟨b, 1, none⟩)) rfl rfl (fun _ => x_field (o := 0) T.fa98_1 rfl) ?_
          refine d_l (v := .slice ((some ⟨b1, 0, none⟩)) ((es.length - 1)) c1) rfl rfl rfl (fun v426 hw425 => x_load1 T.na96 rfl ((hB409.one 1 rfl).ext hw425)) ?_
          refine d_q (v := .int .i64 ((i : Nat) : Int)) rfl rfl (fun _ => x_move rfl) ?_
          refine d_q (v := .pointer (some ⟨b1, 0 + i * 5, none⟩)) rfl rfl (fun _ => x_index T.sl96 rfl rfl (by omega)) ?_
          refine d_l (v := .agg #[.int .i64 ((el es2 i).1.1.1), .int .i64 ((el es2 i).1.1.2), .int .i64 (((el es2 i).1.2.1.val : Nat) : Int), .int .i64 (((el es2 i).1.2.2 : Nat) : Int), .int .i64 (((el es2 i).2 : Nat) : Int)]) rfl rfl rfl (fun v428 hw427 => x_loadA [.int .i64 ((el es2 i).1.1.1), .int .i64 ((el es2 i).1.1.2), .int .i64 (((el es2 i).1.2.1.val : Nat) : Int), .int .i64 (((el es2 i).1.2.2 : Nat) : Int), .int .i64 (((el es2 i).2 : Nat) : Int)] T.ag100 rfl ((hF412.cells.elem (enE_len enH_len) (i := i) (by omega)).ext hw427)) ?_
          refine d_q (v := .pointer (some ⟨b1, 0 + i * 5, none⟩)) rfl rfl (fun _ => x_index T.sl96 rfl rfl (by omega)) ?_
          refine d_e (by decide) (d_s' rfl rfl (e_stO (v := .agg #[.int .i64 ((el es2 (((2 * i) + 1))).1.1.1), .int .i64 ((el es2 (((2 * i) + 1))).1.1.2), .int .i64 (((el es2 (((2 * i) + 1))).1.2.1.val : Nat) : Int), .int .i64 (((el es2 (((2 * i) + 1))).1.2.2 : Nat) : Int), .int .i64 (((el es2 (((2 * i) + 1))).2 : Nat) : Int)]) (u := (el es2 (((2 * i) + 1)))) (enE_len enH_len) T.sz100 rfl rfl rfl hF412 (by first | omega | (rw [List.length_set]; omega)) (by rfl) ?_))
          intro w429 _ hP430 hB431
          have hs432 := hP430.size
          have hB433 := hB408.pt hP430 (by omega)
          have hB434 := hB409.pt hP430 (by omega)
          have hB435 := hB410.pt hP430 (by omega)
          have hB436 := hB411.pt hP430 (by omega)
          have hE437 : Mod (fun k => k = b ∨ Value.ownBlock (.slice (some ⟨b1, 0, none⟩) es.length c1) = some k) w0 w429 := hE413.pt hP430 (.inl (.inr rfl))
          have hz438 := hE437.le
          refine ⟨need_no (by kernel_rfl), ?_⟩
          refine d_q (v := .pointer (some ⟨b1, 0 + (((2 * i) + 1)) * 5, none⟩)) rfl rfl (fun _ => x_index T.sl96 rfl rfl (by omega)) ?_
          refine d_e (by decide) (d_s' rfl rfl (e_stO (v := .agg #[.int .i64 ((el es2 i).1.1.1), .int .i64 ((el es2 i).1.1.2), .int .i64 (((el es2 i).1.2.1.val : Nat) : Int), .int .i64 (((el es2 i).1.2.2 : Nat) : Int), .int .i64 (((el es2 i).2 : Nat) : Int)]) (u := (el es2 i)) (enE_len enH_len) T.sz100 rfl rfl rfl hB431 (by first | omega | (rw [List.length_set]; omega)) (by rfl) ?_))
          intro w439 _ hP440 hB441
          have hs442 := hP440.size
          have hB443 := hB433.pt hP440 (by omega)
          have hB444 := hB434.pt hP440 (by omega)
          have hB445 := hB435.pt hP440 (by omega)
          have hB446 := hB436.pt hP440 (by omega)
          have hE447 : Mod (fun k => k = b ∨ Value.ownBlock (.slice (some ⟨b1, 0, none⟩) es.length c1) = some k) w0 w439 := hE437.pt hP440 (.inl (.inr rfl))
          have hz448 := hE447.le
          refine ⟨need_no (by kernel_rfl), ?_⟩
          refine d_done ?_
          refine kn402 _ _ ?_
          refine region ?_
          refine st_q (v := .int .i64 ((((2 * i) + 1) : Nat) : Int)) (x_move rfl) ?_
          refine st_q (v := .int .i64 ((((2 * i) + 1) : Nat) : Int)) (x_assign rfl) ?_
          refine st_nil ?_
          refine kn147 _ _ ?_
          refine kn141 _ (((2 * i) + 1), (swap es2 i (((2 * i) + 1)))) _ ⟨rfl, rfl, rfl, rfl, rfl, trivial⟩ ⟨hE447, ?_⟩ ?_
          ·
            try dsimp only
            exact ⟨hB443, hB444, hB441, hB445, hB446, by rw [swap_length]; exact hLL, by omega, down_step (ah_swo cmpH_law) hD (by omega) (by omega) (by omega) (Decidable.of_not_not (by assumption)) (by first | exact down_min_r (ah_swo cmpH_law) rfl (by assumption) | exact down_min_l (ah_swo cmpH_law) rfl (by first | exact .inr (by omega) | exact .inl (by assumption))), hP.trans (List.Perm.cons _ (swap_perm (by omega) (by omega)).symm)⟩
          ·
            (try dsimp only); omega

set_option maxHeartbeats 4000000 in
theorem pop63_0 (lo pb b nx : Nat) (v : Value) (es : List (((Int × Int) × Fin 4294967296 × Nat) × Nat)) (w0 : World) (hC : Blk w0.heap pb [.func (.func 20) #[] #[]] 35) (hH : HeapR w0.heap lo 98 100 5 (enE enH) b (.func (.func 60) #[] #[.pointer (some ⟨pb, 0, none⟩)]) v es nx) (hz : es.length = 0) : Calls Try.prog 63 #[.pointer (some ⟨b, 0, none⟩)] w0 fun e w' => e = .returned (.tuple #[.agg #[.int .i64 ((0 : Nat) : Int), .int .i64 ((0 : Nat) : Int), .int .i64 ((0 : Nat) : Int), .int .i64 ((0 : Nat) : Int)], .bool false]) ∧ Ext w0 w' := by
  have hE0 : Below w0.heap.size w0 w0 := Below.refl _ _
  have hz0 := hE0.le
  obtain ⟨hge, hB, hO, hne⟩ := hH
  obtain ⟨a, ca, rfl, hca, hca1⟩ := hO.src.form
  have hbl := hB.lt
  have hpl := hC.lt
  have hpb1 := hC.neB hB (by decide)
  have hpv := hC.neO hO (by decide)
  have hvl : ∀ k, Value.ownBlock (.slice a es.length ca) = some k → lo ≤ k ∧ k < w0.heap.size := fun k hk => hO.lt hk
  refine enter Try.func63 rfl 104 Try.ntmps63 rfl ?_
  refine seqK fun Q1 kn2 kr3 ke4 => ?_
  refine region ?_
  refine st_e (e_alloc T.zv83 ?_)
  intro w5 hA6
  have hx7 := hA6.ext
  have hs8 := hA6.size
  have hB9 : Blk w5.heap w0.heap.size [.int .i64 ((0 : Nat) : Int), .int .i64 ((0 : Nat) : Int), .int .i64 ((0 : Nat) : Int), .int .i64 ((0 : Nat) : Int)] 83 := hA6.new
  have hB10 := hC.ext hx7
  have hB11 := hB.ext hx7
  have hF12 := hO.ext hx7
  have hE13 : Below w0.heap.size w0 w5 := hx7.e hE0 (Nat.le_refl _)
  have hz14 := hE13.le
  have hs15 := hx7.size
  refine st_q (v := .bool false) (x_assign rfl) ?_
  refine st_nil ?_
  refine kn2 _ _ ?_
  refine seqK fun Q16 kn17 kr18 ke19 => ?_
  refine region ?_
  refine st_q (v := .pointer (some ⟨b, 0, none⟩)) (x_move rfl) ?_
  refine st_c (t_call [.pointer (some ⟨b, 0, none⟩)] T.cf72 rfl rfl) (peek72_0 lo pb b nx _ es _ hB10 ⟨hge, hB11, hF12, hne⟩ hz) ?_
  rintro _ w20 ⟨rfl, hx21⟩
  refine ⟨_, rfl, ?_⟩
  have hB22 := hB10.ext hx21
  have hB23 := hB11.ext hx21
  have hB24 := hB9.ext hx21
  have hF25 := hF12.ext hx21
  have hE26 : Below w0.heap.size w0 w20 := hx21.e hE13 (Nat.le_refl _)
  have hz27 := hE26.le
  have hs28 := hx21.size
  refine st_q (v := .tuple #[.agg #[.int .i64 ((0 : Nat) : Int), .int .i64 ((0 : Nat) : Int), .int .i64 ((0 : Nat) : Int), .int .i64 ((0 : Nat) : Int)], .bool false]) (x_move rfl) ?_
  refine st_q (v := .agg #[.int .i64 ((0 : Nat) : Int), .int .i64 ((0 : Nat) : Int), .int .i64 ((0 : Nat) : Int), .int .i64 ((0 : Nat) : Int)]) (x_extract rfl rfl) ?_
  refine st_q (v := .bool false) (x_extract rfl rfl) ?_
  refine st_e (e_alloc T.zv83 ?_)
  intro w29 hA30
  have hx31 := hA30.ext
  have hs32 := hA30.size
  have hB33 : Blk w29.heap w20.heap.size [.int .i64 ((0 : Nat) : Int), .int .i64 ((0 : Nat) : Int), .int .i64 ((0 : Nat) : Int), .int .i64 ((0 : Nat) : Int)] 83 := hA30.new
  have hB34 := hB22.ext hx31
  have hB35 := hB23.ext hx31
  have hB36 := hB24.ext hx31
  have hF37 := hF25.ext hx31
  have hE38 : Below w0.heap.size w0 w29 := hx31.e hE26 (Nat.le_refl _)
  have hz39 := hE38.le
  have hs40 := hx31.size
  refine st_s (e_st (v := .agg #[.int .i64 ((0 : Nat) : Int), .int .i64 ((0 : Nat) : Int), .int .i64 ((0 : Nat) : Int), .int .i64 ((0 : Nat) : Int)]) T.sz83 rfl rfl hB33 (by simp [Value.cells]) (by rfl) ?_)
  intro w41 hP42
  have hB43 : Blk w41.heap w20.heap.size [.int .i64 ((0 : Nat) : Int), .int .i64 ((0 : Nat) : Int), .int .i64 ((0 : Nat) : Int), .int .i64 ((0 : Nat) : Int)] 83 := hP42.new
  have hs44 := hP42.size
  have hB45 := hB34.pt hP42 (by omega)
  have hB46 := hB35.pt hP42 (by omega)
  have hB47 := hB36.pt hP42 (by omega)
  have hF48 := hF37.pt hP42 (by intro e; have := hvl _ e; omega)
  have hE49 : Below w0.heap.size w0 w41 := hP42.below hE38 (by omega)
  have hz50 := hE49.le
  refine st_q (v := .bool false) (x_assign rfl) ?_
  refine st_nil ?_
  refine kn17 _ _ ?_
  refine seqK fun Q51 kn52 kr53 ke54 => ?_
  refine seqK fun Q55 kn56 kr57 ke58 => ?_
  refine region ?_
  refine st_q (v := .bool false) (x_move rfl) ?_
  refine st_q (v := .bool true) (x_notB (b := false) rfl) ?_
  refine st_nil ?_
  refine kn56 _ _ ?_
  refine cndT rfl ?_
  refine seqK fun Q59 kn60 kr61 ke62 => ?_
  refine region ?_
  refine st_q (v := .agg #[.int .i64 ((0 : Nat) : Int), .int .i64 ((0 : Nat) : Int), .int .i64 ((0 : Nat) : Int), .int .i64 ((0 : Nat) : Int)]) (x_loadA [.int .i64 ((0 : Nat) : Int), .int .i64 ((0 : Nat) : Int), .int .i64 ((0 : Nat) : Int), .int .i64 ((0 : Nat) : Int)] T.ag83 rfl (hB43.cells 0 [.int .i64 ((0 : Nat) : Int), .int .i64 ((0 : Nat) : Int), .int .i64 ((0 : Nat) : Int), .int .i64 ((0 : Nat) : Int)] (cells_at rfl))) ?_
  refine st_s (e_st (v := .agg #[.int .i64 ((0 : Nat) : Int), .int .i64 ((0 : Nat) : Int), .int .i64 ((0 : Nat) : Int), .int .i64 ((0 : Nat) : Int)]) T.sz83 rfl rfl hB47 (by simp [Value.cells]) (by rfl) ?_)
  intro w63 hP64
  have hB65 : Blk w63.heap w0.heap.size [.int .i64 ((0 : Nat) : Int), .int .i64 ((0 : Nat) : Int), .int .i64 ((0 : Nat) : Int), .int .i64 ((0 : Nat) : Int)] 83 := hP64.new
  have hs66 := hP64.size
  have hB67 := hB45.pt hP64 (by omega)
  have hB68 := hB46.pt hP64 (by omega)
  have hB69 := hB43.pt hP64 (by omega)
  have hF70 := hF48.pt hP64 (by intro e; have := hvl _ e; omega)
  have hE71 : Below w0.heap.size w0 w63 := hP64.below hE49 (by omega)
  have hz72 := hE71.le
  refine st_q (v := .bool false) (x_assign rfl) ?_
  refine st_nil ?_
  refine kn60 _ _ ?_
  refine ret ?_
  refine kr53 _ _ ?_
  refine leaveCT (P := Try.prog) (fn := Try.f63) (t := 2) (u := 3) (T := 83) (b := w0.heap.size) (o := 0) (cs := [.int .i64 ((0 : Nat) : Int), .int .i64 ((0 : Nat) : Int), .int .i64 ((0 : Nat) : Int), .int .i64 ((0 : Nat) : Int)]) (v := .bool false) rfl T.ag83 rfl (hB65.cells 0 [.int .i64 ((0 : Nat) : Int), .int .i64 ((0 : Nat) : Int), .int .i64 ((0 : Nat) : Int), .int .i64 ((0 : Nat) : Int)] (cells_at rfl)) rfl ?_
  exact ⟨rfl, hE71⟩

set_option maxHeartbeats 4000000 in
theorem new59 (pb : Nat) (w0 : World)  : Calls Try.prog 59 #[(.func (.func 60) #[] #[.pointer (some ⟨pb, 0, none⟩)])] w0 fun e w' => ∃ b, e = .returned (.pointer (some ⟨b, 0, none⟩)) ∧ Ext w0 w' ∧ HeapR w'.heap w0.heap.size 98 100 5 (enE enH) b (.func (.func 60) #[] #[.pointer (some ⟨pb, 0, none⟩)]) (.slice none 0 0) (([] : List (((Int × Int) × Fin 4294967296 × Nat) × Nat))) 0 ∧ w0.heap.size ≤ b := by
  have hE0 : Below w0.heap.size w0 w0 := Below.refl _ _
  have hz0 := hE0.le
  refine enter Try.func59 rfl 7 Try.ntmps59 rfl ?_
  refine seqK fun Q1 kn2 kr3 ke4 => ?_
  refine region ?_
  refine st_q (v := .pointer none) (x_assign rfl) ?_
  refine st_nil ?_
  refine kn2 _ _ ?_
  refine seqK fun Q5 kn6 kr7 ke8 => ?_
  refine region ?_
  refine st_q (v := .func (.func 60) #[] #[.pointer (some ⟨pb, 0, none⟩)]) (x_move rfl) ?_
  refine st_c (t_call [.func (.func 60) #[] #[.pointer (some ⟨pb, 0, none⟩)]] T.cf70 rfl rfl) (told70c pb _) ?_
  rintro _ _ ⟨rfl, rfl⟩
  refine ⟨_, rfl, ?_⟩
  refine st_q (v := .agg #[.func (.func 60) #[] #[.pointer (some ⟨pb, 0, none⟩)], .slice none 0 0, .int .i64 ((0 : Nat) : Int)]) (x_build (fun _ => by kernel_rfl)) ?_
  refine st_e (e_box (v := .agg #[.func (.func 60) #[] #[.pointer (some ⟨pb, 0, none⟩)], .slice none 0 0, .int .i64 ((0 : Nat) : Int)]) rfl ?_)
  intro w9 hA10
  have hx11 := hA10.ext
  have hs12 := hA10.size
  have hB13 : Blk w9.heap w0.heap.size [.func (.func 60) #[] #[.pointer (some ⟨pb, 0, none⟩)], .slice none 0 0, .int .i64 ((0 : Nat) : Int)] 98 := hA10.new
  have hE14 : Below w0.heap.size w0 w9 := hx11.e hE0 (Nat.le_refl _)
  have hz15 := hE14.le
  have hs16 := hx11.size
  refine st_q (v := .pointer (some ⟨w0.heap.size, 0, none⟩)) (x_assign rfl) ?_
  refine st_nil ?_
  refine kn6 _ _ ?_
  refine ret ?_
  refine leave1 (P := Try.prog) (fn := Try.f59) (t := 2) (v := .pointer (some ⟨w0.heap.size, 0, none⟩)) rfl rfl ?_
  exact ⟨_, rfl, hE14, ⟨by omega, hB13, Own.nil _ _ _ _, by simp [Value.ownBlock]⟩, by omega⟩

end Go.Proofs.Ytgfolockecjlnaa
