import Derived.Test.YtgfolockecjlnaaFns
namespace Go.Proofs.Ytgfolockecjlnaa
open Go.RowKit Go.Eng Go.OrdPure Go.HeapPure
theorem T.fa57_1 : FA Try.prog 57 1 1 := fun _ _ => by kernel_rfl
theorem T.na55 : NA Try.prog 55 := fun _ => by kernel_rfl
theorem T.fa57_0 : FA Try.prog 57 0 0 := fun _ _ => by kernel_rfl
theorem T.na35 : NA Try.prog 35 := fun _ => by kernel_rfl
theorem T.sl55 : SL Try.prog 55 78 3 24 (.agg #[.int .i64 ((0 : Nat) : Int), .int .i64 ((0 : Nat) : Int), .int .i64 ((0 : Nat) : Int)]) := sl_mk Try.underlying55 (by kernel_rfl) rfl (by decide)
theorem T.fa78_0 : FA Try.prog 78 0 0 := fun _ _ => by kernel_rfl
theorem T.fa78_1 : FA Try.prog 78 1 2 := fun _ _ => by kernel_rfl
theorem T.fa57_2 : FA Try.prog 57 2 2 := fun _ _ => by kernel_rfl
theorem T.sz55 : SZ Try.prog 55 1 := fun _ => by kernel_rfl
theorem T.cf58 : CF Try.prog 58 := fun _ _ => by kernel_rfl
theorem T.ag78 : AG Try.prog 78 3 := fun _ => ⟨by kernel_rfl, by kernel_rfl⟩
theorem T.sz78 : SZ Try.prog 78 3 := fun _ => by kernel_rfl
theorem T.cf29 : CF Try.prog 29 := fun _ _ => by kernel_rfl

set_option maxHeartbeats 4000000 in
theorem len25 (lo b nx : Nat) (g v : Value) (es : List ((Int × Int) × Nat)) (w0 : World) (hH : HeapR w0.heap lo 57 78 3 (enE enT) b g v es nx) : Calls Try.prog 25 #[.pointer (some ⟨b, 0, none⟩)] w0 fun e w' => e = .returned (.int .i64 ((es.length : Nat) : Int)) ∧ Ext w0 w' := by
  have hE0 : Below w0.heap.size w0 w0 := Below.refl _ _
  have hz0 := hE0.le
  obtain ⟨hge, hB, hO, hne⟩ := hH
  obtain ⟨a, ca, rfl, hca, hca1⟩ := hO.src.form
  have hbl := hB.lt
  have hvl : ∀ k, Value.ownBlock (.slice a es.length ca) = some k → lo ≤ k ∧ k < w0.heap.size := fun k hk => hO.lt hk
  refine enter Try.func25 rfl 10 Try.ntmps25 rfl ?_
  refine seqK fun Q1 kn2 kr3 ke4 => ?_
  refine region ?_
  refine st_q (v := .int .i64 ((0 : Nat) : Int)) (x_assign rfl) ?_
  refine st_nil ?_
  refine kn2 _ _ ?_
  refine seqK fun Q5 kn6 kr7 ke8 => ?_
  refine seqK fun Q9 kn10 kr11 ke12 => ?_
  refine region ?_
  refine st_q (v := .pointer (some ⟨b, 0, none⟩)) (x_move rfl) ?_
  refine st_q (v := .bool false) (x_eqlPnil (p := some ⟨b, 0, none⟩) Try.underlying40 rfl rfl) ?_
  refine st_nil ?_
  refine kn10 _ _ ?_
  refine cndF rfl ?_
  refine skip ?_
  refine kn6 _ _ ?_
  refine seqK fun Q13 kn14 kr15 ke16 => ?_
  refine region ?_
  refine st_q (v := .pointer (some ⟨b, 0, none⟩)) (x_move rfl) ?_
  refine st_q (v := .pointer (some ⟨b, 0, none⟩)) (x_nilCheck rfl) ?_
  refine st_q (v := .pointer (some ⟨b, 1, none⟩)) (x_field (o := 0) T.fa57_1 rfl) ?_
  refine st_q (v := .slice a es.length ca) (x_load1 T.na55 rfl (hB.one 1 rfl)) ?_
  refine st_q (v := .int .i64 ((es.length : Nat) : Int)) (x_lenSl rfl Try.underlying55 rfl) ?_
  refine st_q (v := .int .i64 ((es.length : Nat) : Int)) (x_assign rfl) ?_
  refine st_nil ?_
  refine kn14 _ _ ?_
  refine ret ?_
  refine leave1 (P := Try.prog) (fn := Try.f25) (t := 2) (v := .int .i64 ((es.length : Nat) : Int)) rfl rfl ?_
  exact ⟨rfl, hE0⟩

set_option maxHeartbeats 4000000 in
theorem ahead58 (lo fc : Nat) (c : (Int × Int) → (Int × Int) → Int) (hcf : CF Try.prog fc) (hcmp : Cmp fc c) (g : Value) (hg : Told g fc) (b nx : Nat) (v : Value) (es : List ((Int × Int) × Nat)) (i k : Nat) (w0 : World) (hH : HeapR w0.heap lo 57 78 3 (enE enT) b g v es nx) (hi : i < es.length) (hk : k < es.length) : Calls Try.prog 58 #[.pointer (some ⟨b, 0, none⟩), .int .i64 ((i : Nat) : Int), .int .i64 ((k : Nat) : Int)] w0 fun e w' => e = .returned (.bool (decide (ah c (el es i) (el es k)))) ∧ Ext w0 w' := by
  have hE0 : Below w0.heap.size w0 w0 := Below.refl _ _
  have hz0 := hE0.le
  obtain ⟨hge, hB, hO, hne⟩ := hH
  obtain ⟨a, ca, rfl, hca, hca1⟩ := hO.src.form
  have hbl := hB.lt
  have hvl : ∀ k, Value.ownBlock (.slice a es.length ca) = some k → lo ≤ k ∧ k < w0.heap.size := fun k hk => hO.lt hk
  refine enter Try.func58 rfl 55 Try.ntmps58 rfl ?_
  refine seqK fun Q1 kn2 kr3 ke4 => ?_
  refine region ?_
  refine st_q (v := .bool false) (x_assign rfl) ?_
  refine st_nil ?_
  refine kn2 _ _ ?_
  refine seqK fun Q5 kn6 kr7 ke8 => ?_
  refine regionD1 [3, 8, 12, 16, 20] [0, 1, 2, 3, 5, 6, 7, 8, 9, 10, 11, 12, 13, 14, 15, 16, 17, 18, 19, 20, 22] (.one 0 (.one 1 (.one 2 (.one 3 (.one 5 (.one 6 (.one 7 (.one 8 (.one 9 (.one 10 (.one 11 (.one 12 (.one 13 (.one 14 (.one 15 (.one 16 (.one 17 (.one 18 (.one 19 (.one 20 (.one 4 (.one 21 (.one 22 .done))))))))))))))))))))))) (by kernel_rfl) (by kernel_rfl) ?_
  intro w9 hx10 hs11
  have hB12 := hB.ext hx10
  have hF13 := hO.ext hx10
  have hE14 : Below w0.heap.size w0 w9 := hx10.e hE0 (Nat.le_refl _)
  have hz15 := hE14.le
  have hs16 := hx10.size
  have hS17 : Ext w9 w9 := Below.refl _ _
  refine d_q (v := .pointer (some ⟨b, 0, none⟩)) rfl rfl (fun _ => x_move rfl) ?_
  refine d_q (v := .pointer (some ⟨b, 0, none⟩)) rfl rfl (fun _ => x_nilCheck rfl) ?_
  refine d_q (v := .pointer (some ⟨b, 0, none⟩)) rfl rfl (fun _ => x_field (o := 0) T.fa57_0 rfl) ?_
  refine d_l (v := g) rfl rfl rfl (fun v19 hw18 => x_load1 T.na35 rfl ((hB12.one 0 rfl).ext hw18)) ?_
  refine d_q (v := .pointer (some ⟨b, 0, none⟩)) rfl rfl (fun _ => x_move rfl) ?_
  refine d_q (v := .pointer (some ⟨b, 0, none⟩)) rfl rfl (fun _ => x_nilCheck rfl) ?_
  refine d_q (v := .pointer (some ⟨b, 1, none⟩)) rfl rfl (fun _ => x_field (o := 0) T.fa57_1 rfl) ?_
  refine d_l (v := .slice a es.length ca) rfl rfl rfl (fun v21 hw20 => x_load1 T.na55 rfl ((hB12.one 1 rfl).ext hw20)) ?_
  refine d_q (v := .int .i64 ((i : Nat) : Int)) rfl rfl (fun _ => x_move rfl) ?_
  obtain ⟨b22, o23, ha24, hc25⟩ := hF13.src.at (by omega)
  refine d_q (v := .pointer (some ⟨b22, o23 + i * 3, none⟩)) rfl rfl (fun _ => x_index' T.sl55 rfl ha24 rfl (by omega)) ?_
  refine d_q (v := .pointer (some ⟨b22, o23 + i * 3, none⟩)) rfl rfl (fun _ => x_field (o := o23 + i * 3) T.fa78_0 rfl) ?_
  refine d_l (v := .agg #[.int .i64 ((el es i).1.1), .int .i64 ((el es i).1.2)]) rfl rfl rfl (fun v27 hw26 => x_loadA [.int .i64 ((el es i).1.1), .int .i64 ((el es i).1.2)] T.ag31 rfl (((hc25.elem (enE_len enT_len) (i := i) (by omega)).sub 0 [.int .i64 ((el es i).1.1), .int .i64 ((el es i).1.2)] (cells_at rfl)).ext hw26)) ?_
  refine d_q (v := .pointer (some ⟨b, 0, none⟩)) rfl rfl (fun _ => x_move rfl) ?_
  refine d_q (v := .pointer (some ⟨b, 0, none⟩)) rfl rfl (fun _ => x_nilCheck rfl) ?_
  refine d_q (v := .pointer (some ⟨b, 1, none⟩)) rfl rfl (fun _ => x_field (o := 0) T.fa57_1 rfl) ?_
  refine d_l (v := .slice a es.length ca) rfl rfl rfl (fun v29 hw28 => x_load1 T.na55 rfl ((hB12.one 1 rfl).ext hw28)) ?_
  refine d_q (v := .int .i64 ((k : Nat) : Int)) rfl rfl (fun _ => x_move rfl) ?_
  obtain ⟨b30, o31, ha32, hc33⟩ := hF13.src.at (by omega)
  refine d_q (v := .pointer (some ⟨b30, o31 + k * 3, none⟩)) rfl rfl (fun _ => x_index' T.sl55 rfl ha32 rfl (by omega)) ?_
  refine d_q (v := .pointer (some ⟨b30, o31 + k * 3, none⟩)) rfl rfl (fun _ => x_field (o := o31 + k * 3) T.fa78_0 rfl) ?_
  refine d_l (v := .agg #[.int .i64 ((el es k).1.1), .int .i64 ((el es k).1.2)]) rfl rfl rfl (fun v35 hw34 => x_loadA [.int .i64 ((el es k).1.1), .int .i64 ((el es k).1.2)] T.ag31 rfl (((hc33.elem (enE_len enT_len) (i := k) (by omega)).sub 0 [.int .i64 ((el es k).1.1), .int .i64 ((el es k).1.2)] (cells_at rfl)).ext hw34)) ?_
  refine d_e (by decide) (d_c' rfl rfl (t_call [g] T.cf53 rfl rfl) (hg _) ?_)
  rintro _ _ ⟨rfl, rfl⟩
  refine ⟨_, rfl, ?_⟩
  have hS36 := hS17
  refine ⟨fun _ => hS36, ?_⟩
  refine d_e (by decide) (d_c' rfl rfl (t_call [.agg #[.int .i64 ((el es i).1.1), .int .i64 ((el es i).1.2)], .agg #[.int .i64 ((el es k).1.1), .int .i64 ((el es k).1.2)]] hcf rfl rfl) (hcmp (el es i).1 (el es k).1 _) ?_)
  rintro _ w37 ⟨rfl, hx38⟩
  refine ⟨_, rfl, ?_⟩
  have hB39 := hB12.ext hx38
  have hF40 := hF13.ext hx38
  have hF41 := hc25.ext hx38
  have hF42 := hc33.ext hx38
  have hE43 : Below w0.heap.size w0 w37 := hx38.e hE14 (Nat.le_refl _)
  have hz44 := hE43.le
  have hs45 := hx38.size
  have hS46 := hS36.trans (hx38.mono hS36.size)
  refine ⟨fun _ => hS46, ?_⟩
  refine d_q (v := .int .i64 (c (el es i).1 (el es k).1)) rfl rfl (fun _ => x_assign rfl) ?_
  refine d_done ?_
  refine kn6 _ _ ?_
  refine seqK fun Q47 kn48 kr49 ke50 => ?_
  refine regionD1 [9, 13, 17, 21] [0, 1, 2, 3, 4, 5, 6, 7, 8, 9, 10, 11, 12, 13, 14, 15, 16, 17, 18, 19, 20, 21, 22, 23, 24, 25] (.one 0 (.one 1 (.one 2 (.one 3 (.one 4 (.one 5 (.one 6 (.one 7 (.one 8 (.one 9 (.one 10 (.one 11 (.one 12 (.one 13 (.one 14 (.one 15 (.one 16 (.one 17 (.one 18 (.one 19 (.one 20 (.one 21 (.one 22 (.one 23 (.one 24 (.one 25 .done)))))))))))))))))))))))))) (by kernel_rfl) (by kernel_rfl) ?_
  intro w51 hx52 hs53
  have hB54 := hB39.ext hx52
  have hF55 := hF40.ext hx52
  have hF56 := hF41.ext hx52
  have hF57 := hF42.ext hx52
  have hE58 : Below w0.heap.size w0 w51 := hx52.e hE43 (Nat.le_refl _)
  have hz59 := hE58.le
  have hs60 := hx52.size
  have hS61 : Ext w51 w51 := Below.refl _ _
  refine d_q (v := .int .i64 (c (el es i).1 (el es k).1)) rfl rfl (fun _ => x_move rfl) ?_
  refine d_q (v := .bool (decide ((c (el es i).1 (el es k).1) < 0))) rfl rfl (fun _ => x_lss rfl rfl) ?_
  refine d_if rfl rfl (p := (c (el es i).1 (el es k).1) < 0) (fun _ => x_move rfl) (fun h62 => ?_) (fun h62 => ?_)
  ·
    refine d_gn (j := 2) (t := 32) rfl rfl rfl rfl (by decide) rfl ?_
    refine d_gn (j := 2) (t := 32) rfl rfl rfl rfl (by decide) rfl ?_
    refine d_gn (j := 2) (t := 32) rfl rfl rfl rfl (by decide) rfl ?_
    refine d_gu (j := 5) (t := 35) rfl rfl rfl rfl (by decide) ?_
    refine d_gu (j := 5) (t := 35) rfl rfl rfl rfl (by decide) ?_
    refine d_gu (j := 5) (t := 35) rfl rfl rfl rfl (by decide) ?_
    refine d_gu (j := 5) (t := 35) rfl rfl rfl rfl (by decide) ?_
    refine d_gu (j := 5) (t := 35) rfl rfl rfl rfl (by decide) ?_
    refine d_gu (j := 5) (t := 35) rfl rfl rfl rfl (by decide) ?_
    refine d_gu (j := 5) (t := 35) rfl rfl rfl rfl (by decide) ?_
    refine d_gu (j := 5) (t := 35) rfl rfl rfl rfl (by decide) ?_
    refine d_gu (j := 5) (t := 35) rfl rfl rfl rfl (by decide) ?_
    refine d_gu (j := 5) (t := 35) rfl rfl rfl rfl (by decide) ?_
    refine d_gu (j := 5) (t := 35) rfl rfl rfl rfl (by decide) ?_
    refine d_gu (j := 5) (t := 35) rfl rfl rfl rfl (by decide) ?_
    refine d_gu (j := 5) (t := 35) rfl rfl rfl rfl (by decide) ?_
    refine d_gu (j := 5) (t := 35) rfl rfl rfl rfl (by decide) ?_
    refine d_gu (j := 5) (t := 35) rfl rfl rfl rfl (by decide) ?_
    refine d_gu (j := 5) (t := 35) rfl rfl rfl rfl (by decide) ?_
    refine d_gu (j := 5) (t := 35) rfl rfl rfl rfl (by decide) ?_
    refine d_gn (j := 2) (t := 32) rfl rfl rfl rfl (by decide) rfl ?_
    refine d_q (v := .bool true) rfl rfl (fun _ => x_pickT rfl rfl) ?_
    refine d_q (v := .bool true) rfl rfl (fun _ => x_assign rfl) ?_
    refine d_done ?_
    refine kn48 _ _ ?_
    refine ret ?_
    refine leave1 (P := Try.prog) (fn := Try.f58) (t := 6) (v := .bool true) rfl rfl ?_
    first | exact ⟨by rw [ah_t (by assumption)], hE58⟩ | exact ⟨by rw [ah_n (by assumption) (by assumption)], hE58⟩ | exact ⟨by rw [ah_f (by assumption) (by assumption)], hE58⟩
  ·
    refine d_gq (v := .int .i64 (c (el es i).1 (el es k).1)) (j := 2) (t := 32) rfl rfl rfl rfl (by decide) (fun _ => x_move rfl) ?_
    refine d_gq (v := .bool (decide ((c (el es i).1 (el es k).1) = 0))) (j := 2) (t := 32) rfl rfl rfl rfl (by decide) (fun _ => x_eql rfl rfl) ?_
    refine d_gif (j := 2) (t := 32) rfl rfl rfl rfl (by decide) (p := (c (el es i).1 (el es k).1) = 0) (fun _ => x_move rfl) (fun h63 => ?_) (fun h63 => ?_)
    ·
      refine d_gq (v := .pointer (some ⟨b, 0, none⟩)) (j := 5) (t := 35) rfl rfl rfl rfl (by decide) (fun _ => x_move rfl) ?_
      refine d_gq (v := .pointer (some ⟨b, 0, none⟩)) (j := 5) (t := 35) rfl rfl rfl rfl (by decide) (fun _ => x_nilCheck rfl) ?_
      refine d_gq (v := .pointer (some ⟨b, 1, none⟩)) (j := 5) (t := 35) rfl rfl rfl rfl (by decide) (fun _ => x_field (o := 0) T.fa57_1 rfl) ?_
      refine d_gl (v := .slice a es.length ca) (j := 5) (t := 35) rfl rfl rfl rfl rfl (by decide) (fun v65 hw64 => x_load1 T.na55 rfl ((hB54.one 1 rfl).ext hw64)) ?_
      refine d_gq (v := .int .i64 ((i : Nat) : Int)) (j := 5) (t := 35) rfl rfl rfl rfl (by decide) (fun _ => x_move rfl) ?_
      obtain ⟨b66, o67, ha68, hc69⟩ := hF55.src.at (by omega)
      refine d_gq (v := .pointer (some ⟨b66, o67 + i * 3, none⟩)) (j := 5) (t := 35) rfl rfl rfl rfl (by decide) (fun _ => x_index' T.sl55 rfl ha68 rfl (by omega)) ?_
      refine d_gq (v := .pointer (some ⟨b66, o67 + i * 3 + 2, none⟩)) (j := 5) (t := 35) rfl rfl rfl rfl (by decide) (fun _ => x_field (o := o67 + i * 3) T.fa78_1 rfl) ?_
      refine d_gl (v := .int .i64 (((el es i).2 : Nat) : Int)) (j := 5) (t := 35) rfl rfl rfl rfl rfl (by decide) (fun v71 hw70 => x_load1 T.na3 rfl (((hc69.elem (enE_len enT_len) (i := i) (by omega)).fld 2 rfl).ext hw70)) ?_
      refine d_gq (v := .pointer (some ⟨b, 0, none⟩)) (j := 5) (t := 35) rfl rfl rfl rfl (by decide) (fun _ => x_move rfl) ?_
      refine d_gq (v := .pointer (some ⟨b, 0, none⟩)) (j := 5) (t := 35) rfl rfl rfl rfl (by decide) (fun _ => x_nilCheck rfl) ?_
      refine d_gq (v := .pointer (some ⟨b, 1, none⟩)) (j := 5) (t := 35) rfl rfl rfl rfl (by decide) (fun _ => x_field (o := 0) T.fa57_1 rfl) ?_
      refine d_gl (v := .slice a es.length ca) (j := 5) (t := 35) rfl rfl rfl rfl rfl (by decide) (fun v73 hw72 => x_load1 T.na55 rfl ((hB54.one 1 rfl).ext hw72)) ?_
      refine d_gq (v := .int .i64 ((k : Nat) : Int)) (j := 5) (t := 35) rfl rfl rfl rfl (by decide) (fun _ => x_move rfl) ?_
      obtain ⟨b74, o75, ha76, hc77⟩ := hF55.src.at (by omega)
      refine d_gq (v := .pointer (some ⟨b74, o75 + k * 3, none⟩)) (j := 5) (t := 35) rfl rfl rfl rfl (by decide) (fun _ => x_index' T.sl55 rfl ha76 rfl (by omega)) ?_
      refine d_gq (v := .pointer (some ⟨b74, o75 + k * 3 + 2, none⟩)) (j := 5) (t := 35) rfl rfl rfl rfl (by decide) (fun _ => x_field (o := o75 + k * 3) T.fa78_1 rfl) ?_
      refine d_gl (v := .int .i64 (((el es k).2 : Nat) : Int)) (j := 5) (t := 35) rfl rfl rfl rfl rfl (by decide) (fun v79 hw78 => x_load1 T.na3 rfl (((hc77.elem (enE_len enT_len) (i := k) (by omega)).fld 2 rfl).ext hw78)) ?_
      refine d_gq (v := .bool (decide (((el es i).2) < ((el es k).2)))) (j := 5) (t := 35) rfl rfl rfl rfl (by decide) (fun _ => x_lssN rfl rfl) ?_
      refine d_gq (v := .bool (decide (((el es i).2) < ((el es k).2)))) (j := 2) (t := 32) rfl rfl rfl rfl (by decide) (fun _ => x_pickT rfl rfl) ?_
      refine d_q (v := .bool (decide (((el es i).2) < ((el es k).2)))) rfl rfl (fun _ => x_pickF rfl rfl) ?_
      refine d_q (v := .bool (decide (((el es i).2) < ((el es k).2)))) rfl rfl (fun _ => x_assign rfl) ?_
      refine d_done ?_
      refine kn48 _ _ ?_
      refine ret ?_
      refine leave1 (P := Try.prog) (fn := Try.f58) (t := 6) (v := .bool (decide (((el es i).2) < ((el es k).2)))) rfl rfl ?_
      first | exact ⟨by rw [ah_t (by assumption)], hE58⟩ | exact ⟨by rw [ah_n (by assumption) (by assumption)], hE58⟩ | exact ⟨by rw [ah_f (by assumption) (by assumption)], hE58⟩
    ·
      refine d_gn (j := 5) (t := 35) rfl rfl rfl rfl (by decide) rfl ?_
      refine d_gn (j := 5) (t := 35) rfl rfl rfl rfl (by decide) rfl ?_
      refine d_gn (j := 5) (t := 35) rfl rfl rfl rfl (by decide) rfl ?_
      refine d_gn (j := 5) (t := 35) rfl rfl rfl rfl (by decide) rfl ?_
      refine d_gn (j := 5) (t := 35) rfl rfl rfl rfl (by decide) rfl ?_
      refine d_gn (j := 5) (t := 35) rfl rfl rfl rfl (by decide) rfl ?_
      refine d_gn (j := 5) (t := 35) rfl rfl rfl rfl (by decide) rfl ?_
      refine d_gn (j := 5) (t := 35) rfl rfl rfl rfl (by decide) rfl ?_
      refine d_gn (j := 5) (t := 35) rfl rfl rfl rfl (by decide) rfl ?_
      refine d_gn (j := 5) (t := 35) rfl rfl rfl rfl (by decide) rfl ?_
      refine d_gn (j := 5) (t := 35) rfl rfl rfl rfl (by decide) rfl ?_
      refine d_gn (j := 5) (t := 35) rfl rfl rfl rfl (by decide) rfl ?_
      refine d_gn (j := 5) (t := 35) rfl rfl rfl rfl (by decide) rfl ?_
      refine d_gn (j := 5) (t := 35) rfl rfl rfl rfl (by decide) rfl ?_
      refine d_gn (j := 5) (t := 35) rfl rfl rfl rfl (by decide) rfl ?_
      refine d_gn (j := 5) (t := 35) rfl rfl rfl rfl (by decide) rfl ?_
      refine d_gn (j := 5) (t := 35) rfl rfl rfl rfl (by decide) rfl ?_
      refine d_gq (v := .bool false) (j := 2) (t := 32) rfl rfl rfl rfl (by decide) (fun _ => x_pickF rfl rfl) ?_
      refine d_q (v := .bool false) rfl rfl (fun _ => x_pickF rfl rfl) ?_
      refine d_q (v := .bool false) rfl rfl (fun _ => x_assign rfl) ?_
      refine d_done ?_
      refine kn48 _ _ ?_
      refine ret ?_
      refine leave1 (P := Try.prog) (fn := Try.f58) (t := 6) (v := .bool false) rfl rfl ?_
      first | exact ⟨by rw [ah_t (by assumption)], hE58⟩ | exact ⟨by rw [ah_n (by assumption) (by assumption)], hE58⟩ | exact ⟨by rw [ah_f (by assumption) (by assumption)], hE58⟩

set_option maxHeartbeats 4000000 in
theorem peek29_0 (lo b nx : Nat) (g v : Value) (es : List ((Int × Int) × Nat)) (w0 : World) (hH : HeapR w0.heap lo 57 78 3 (enE enT) b g v es nx) (hz : es.length = 0) : Calls Try.prog 29 #[.pointer (some ⟨b, 0, none⟩)] w0 fun e w' => e = .returned (.tuple #[.agg #[.int .i64 ((0 : Nat) : Int), .int .i64 ((0 : Nat) : Int)], .bool false]) ∧ Ext w0 w' := by
  have hE0 : Below w0.heap.size w0 w0 := Below.refl _ _
  have hz0 := hE0.le
  obtain ⟨hge, hB, hO, hne⟩ := hH
  obtain ⟨a, ca, rfl, hca, hca1⟩ := hO.src.form
  have hbl := hB.lt
  have hvl : ∀ k, Value.ownBlock (.slice a es.length ca) = some k → lo ≤ k ∧ k < w0.heap.size := fun k hk => hO.lt hk
  refine enter Try.func29 rfl 23 Try.ntmps29 rfl ?_
  refine seqK fun Q1 kn2 kr3 ke4 => ?_
  refine region ?_
  refine st_e (e_alloc T.zv31 ?_)
  intro w5 hA6
  have hx7 := hA6.ext
  have hs8 := hA6.size
  have hB9 : Blk w5.heap w0.heap.size [.int .i64 ((0 : Nat) : Int), .int .i64 ((0 : Nat) : Int)] 31 := hA6.new
  have hB10 := hB.ext hx7
  have hF11 := hO.ext hx7
  have hE12 : Below w0.heap.size w0 w5 := hx7.e hE0 (Nat.le_refl _)
  have hz13 := hE12.le
  have hs14 := hx7.size
  refine st_q (v := .bool false) (x_assign rfl) ?_
  refine st_nil ?_
  refine kn2 _ _ ?_
  refine seqK fun Q15 kn16 kr17 ke18 => ?_
  refine seqK fun Q19 kn20 kr21 ke22 => ?_
  refine region ?_
  refine st_q (v := .pointer (some ⟨b, 0, none⟩)) (x_move rfl) ?_
  refine st_q (v := .bool false) (x_eqlPnil (p := some ⟨b, 0, none⟩) Try.underlying40 rfl rfl) ?_
  refine st_q (v := .bool false) (x_move rfl) ?_
  refine st_gq 2 7 rfl rfl (by decide) ?_
  refine st_q (v := .pointer (some ⟨b, 0, none⟩)) (x_move rfl) ?_
  refine st_gq 2 7 rfl rfl (by decide) ?_
  refine st_q (v := .pointer (some ⟨b, 0, none⟩)) (x_nilCheck rfl) ?_
  refine st_gq 2 7 rfl rfl (by decide) ?_
  refine st_q (v := .pointer (some ⟨b, 1, none⟩)) (x_field (o := 0) T.fa57_1 rfl) ?_
  refine st_gq 2 7 rfl rfl (by decide) ?_
  refine st_q (v := .slice a es.length ca) (x_load1 T.na55 rfl (hB10.one 1 rfl)) ?_
  refine st_gq 2 7 rfl rfl (by decide) ?_
  refine st_q (v := .int .i64 ((es.length : Nat) : Int)) (x_lenSl rfl Try.underlying55 rfl) ?_
  refine st_gq 2 7 rfl rfl (by decide) ?_
  refine st_q (v := .bool (decide (es.length = 0))) (x_eqlN rfl rfl) ?_
  refine st_q (v := .bool (decide (es.length = 0))) (x_pickF rfl rfl) ?_
  refine st_nil ?_
  refine kn20 _ _ ?_
  refine cnd (p := es.length = 0) rfl (fun h23 => ?_) (fun h23 => ?_)
  ·
    refine seqK fun Q24 kn25 kr26 ke27 => ?_
    refine region ?_
    refine st_e (e_alloc T.zv31 ?_)
    intro w28 hA29
    have hx30 := hA29.ext
    have hs31 := hA29.size
    have hB32 : Blk w28.heap w5.heap.size [.int .i64 ((0 : Nat) : Int), .int .i64 ((0 : Nat) : Int)] 31 := hA29.new
    have hB33 := hB10.ext hx30
    have hB34 := hB9.ext hx30
    have hF35 := hF11.ext hx30
    have hE36 : Below w0.heap.size w0 w28 := hx30.e hE12 (Nat.le_refl _)
    have hz37 := hE36.le
    have hs38 := hx30.size
    refine st_nil ?_
    refine kn25 _ _ ?_
    refine seqK fun Q39 kn40 kr41 ke42 => ?_
    refine region ?_
    refine st_q (v := .agg #[.int .i64 ((0 : Nat) : Int), .int .i64 ((0 : Nat) : Int)]) (x_loadA [.int .i64 ((0 : Nat) : Int), .int .i64 ((0 : Nat) : Int)] T.ag31 rfl (hB32.cells 0 [.int .i64 ((0 : Nat) : Int), .int .i64 ((0 : Nat) : Int)] (cells_at rfl))) ?_
    refine st_s (e_st (v := .agg #[.int .i64 ((0 : Nat) : Int), .int .i64 ((0 : Nat) : Int)]) T.sz31 rfl rfl hB34 (by simp [Value.cells]) (by rfl) ?_)
    intro w43 hP44
    have hB45 : Blk w43.heap w0.heap.size [.int .i64 ((0 : Nat) : Int), .int .i64 ((0 : Nat) : Int)] 31 := hP44.new
    have hs46 := hP44.size
    have hB47 := hB33.pt hP44 (by omega)
    have hB48 := hB32.pt hP44 (by omega)
    have hF49 := hF35.pt hP44 (by intro e; have := hvl _ e; omega)
    have hE50 : Below w0.heap.size w0 w43 := hP44.below hE36 (by omega)
    have hz51 := hE50.le
    refine st_q (v := .bool false) (x_assign rfl) ?_
    refine st_nil ?_
    refine kn40 _ _ ?_
    refine ret ?_
    refine kr17 _ _ ?_
    refine leaveCT (P := Try.prog) (fn := Try.f29) (t := 2) (u := 3) (T := 31) (b := w0.heap.size) (o := 0) (cs := [.int .i64 ((0 : Nat) : Int), .int .i64 ((0 : Nat) : Int)]) (v := .bool false) rfl T.ag31 rfl (hB45.cells 0 [.int .i64 ((0 : Nat) : Int), .int .i64 ((0 : Nat) : Int)] (cells_at rfl)) rfl ?_
    exact ⟨rfl, hE50⟩
  ·
    exact absurd h23 (by omega)

set_option maxHeartbeats 4000000 in
theorem peek29_1 (lo b nx : Nat) (g v : Value) (es : List ((Int × Int) × Nat)) (w0 : World) (hH : HeapR w0.heap lo 57 78 3 (enE enT) b g v es nx) (hz : 0 < es.length) : Calls Try.prog 29 #[.pointer (some ⟨b, 0, none⟩)] w0 fun e w' => e = .returned (.tuple #[.agg (enT (el es 0).1).toArray, .bool true]) ∧ Ext w0 w' := by
  have hE0 : Below w0.heap.size w0 w0 := Below.refl _ _
  have hz0 := hE0.le
  obtain ⟨hge, hB, hO, hne⟩ := hH
  obtain ⟨a, ca, rfl, hca, hca1⟩ := hO.src.form
  have hbl := hB.lt
  have hvl : ∀ k, Value.ownBlock (.slice a es.length ca) = some k → lo ≤ k ∧ k < w0.heap.size := fun k hk => hO.lt hk
  refine enter Try.func29 rfl 23 Try.ntmps29 rfl ?_
  refine seqK fun Q1 kn2 kr3 ke4 => ?_
  refine region ?_
  refine st_e (e_alloc T.zv31 ?_)
  intro w5 hA6
  have hx7 := hA6.ext
  have hs8 := hA6.size
  have hB9 : Blk w5.heap w0.heap.size [.int .i64 ((0 : Nat) : Int), .int .i64 ((0 : Nat) : Int)] 31 := hA6.new
  have hB10 := hB.ext hx7
  have hF11 := hO.ext hx7
  have hE12 : Below w0.heap.size w0 w5 := hx7.e hE0 (Nat.le_refl _)
  have hz13 := hE12.le
  have hs14 := hx7.size
  refine st_q (v := .bool false) (x_assign rfl) ?_
  refine st_nil ?_
  refine kn2 _ _ ?_
  refine seqK fun Q15 kn16 kr17 ke18 => ?_
  refine seqK fun Q19 kn20 kr21 ke22 => ?_
  refine region ?_
  refine st_q (v := .pointer (some ⟨b, 0, none⟩)) (x_move rfl) ?_
  refine st_q (v := .bool false) (x_eqlPnil (p := some ⟨b, 0, none⟩) Try.underlying40 rfl rfl) ?_
  refine st_q (v := .bool false) (x_move rfl) ?_
  refine st_gq 2 7 rfl rfl (by decide) ?_
  refine st_q (v := .pointer (some ⟨b, 0, none⟩)) (x_move rfl) ?_
  refine st_gq 2 7 rfl rfl (by decide) ?_
  refine st_q (v := .pointer (some ⟨b, 0, none⟩)) (x_nilCheck rfl) ?_
  refine st_gq 2 7 rfl rfl (by decide) ?_
  refine st_q (v := .pointer (some ⟨b, 1, none⟩)) (x_field (o := 0) T.fa57_1 rfl) ?_
  refine st_gq 2 7 rfl rfl (by decide) ?_
  refine st_q (v := .slice a es.length ca) (x_load1 T.na55 rfl (hB10.one 1 rfl)) ?_
  refine st_gq 2 7 rfl rfl (by decide) ?_
  refine st_q (v := .int .i64 ((es.length : Nat) : Int)) (x_lenSl rfl Try.underlying55 rfl) ?_
  refine st_gq 2 7 rfl rfl (by decide) ?_
  refine st_q (v := .bool (decide (es.length = 0))) (x_eqlN rfl rfl) ?_
  refine st_q (v := .bool (decide (es.length = 0))) (x_pickF rfl rfl) ?_
  refine st_nil ?_
  refine kn20 _ _ ?_
  refine cnd (p := es.length = 0) rfl (fun h23 => ?_) (fun h23 => ?_)
  ·
    exact absurd h23 (by omega)
  ·
    refine skip ?_
    refine kn16 _ _ ?_
    refine seqK fun Q24 kn25 kr26 ke27 => ?_
    refine region ?_
    refine st_q (v := .pointer (some ⟨b, 0, none⟩)) (x_move rfl) ?_
    refine st_q (v := .pointer (some ⟨b, 0, none⟩)) (x_nilCheck rfl) ?_
    refine st_q (v := .pointer (some ⟨b, 1, none⟩)) (x_field (o := 0) T.fa57_1 rfl) ?_
    refine st_q (v := .slice a es.length ca) (x_load1 T.na55 rfl (hB10.one 1 rfl)) ?_
    obtain ⟨b28, o29, ha30, hc31⟩ := hF11.src.at (by omega)
    refine st_q (v := .pointer (some ⟨b28, o29 + 0 * 3, none⟩)) (x_index' T.sl55 rfl ha30 rfl (by omega)) ?_
    refine st_q (v := .pointer (some ⟨b28, o29 + 0 * 3, none⟩)) (x_field (o := o29 + 0 * 3) T.fa78_0 rfl) ?_
    refine st_q (v := .agg #[.int .i64 ((el es 0).1.1), .int .i64 ((el es 0).1.2)]) (x_loadA [.int .i64 ((el es 0).1.1), .int .i64 ((el es 0).1.2)] T.ag31 rfl ((hc31.elem (enE_len enT_len) (i := 0) (by omega)).sub 0 [.int .i64 ((el es 0).1.1), .int .i64 ((el es 0).1.2)] (cells_at rfl))) ?_
    refine st_s (e_st (v := .agg #[.int .i64 ((el es 0).1.1), .int .i64 ((el es 0).1.2)]) T.sz31 rfl rfl hB9 (by simp [Value.cells]) (by rfl) ?_)
    intro w32 hP33
    have hB34 : Blk w32.heap w0.heap.size [.int .i64 ((el es 0).1.1), .int .i64 ((el es 0).1.2)] 31 := hP33.new
    have hs35 := hP33.size
    have hB36 := hB10.pt hP33 (by omega)
    have hF37 := hF11.pt hP33 (by intro e; have := hvl _ e; omega)
    have hE39 : Below w0.heap.size w0 w32 := hP33.below hE12 (by omega)
    have hz40 := hE39.le
    refine st_q (v := .bool true) (x_assign rfl) ?_
    refine st_nil ?_
    refine kn25 _ _ ?_
    refine ret ?_
    refine leaveCT (P := Try.prog) (fn := Try.f29) (t := 2) (u := 3) (T := 31) (b := w0.heap.size) (o := 0) (cs := [.int .i64 ((el es 0).1.1), .int .i64 ((el es 0).1.2)]) (v := .bool true) rfl T.ag31 rfl (hB34.cells 0 [.int .i64 ((el es 0).1.1), .int .i64 ((el es 0).1.2)] (cells_at rfl)) rfl ?_
    exact ⟨rfl, hE39⟩

set_option maxHeartbeats 4000000 in
theorem push26 (lo fc : Nat) (c : (Int × Int) → (Int × Int) → Int) (hcf : CF Try.prog fc) (hcmp : Cmp fc c) (hL : Lawful c) (g : Value) (hg : Told g fc) (b nx : Nat) (v : Value) (es : List ((Int × Int) × Nat)) (z : Int × Int) (w0 : World) (hH : HeapR w0.heap lo 57 78 3 (enE enT) b g v es nx) (hlen : es.length ≤ 4398046511104) (hnx : nx ≤ 4611686018427387904) (hhp : HP (ah c) es) : Calls Try.prog 26 #[.pointer (some ⟨b, 0, none⟩), .agg (enT z).toArray] w0 fun e w' => e = .returned (.tuple #[]) ∧ ∃ v' es', Mod (fun k => k = b ∨ v.ownBlock = some k) w0 w' ∧ HeapR w'.heap lo 57 78 3 (enE enT) b g v' es' (nx + 1) ∧ HP (ah c) es' ∧ es'.Perm (es ++ [(z, nx)]) ∧ (v'.ownBlock = v.ownBlock ∨ ∀ k, v'.ownBlock = some k → w0.heap.size ≤ k) := by
  have hE0 : Mod (fun k => k = b ∨ v.ownBlock = some k) w0 w0 := Mod.refl _ _
  have hz0 := hE0.le
  obtain ⟨hge, hB, hO, hne⟩ := hH
  obtain ⟨a, ca, rfl, hca, hca1⟩ := hO.src.form
  have hbl := hB.lt
  have hvl : ∀ k, Value.ownBlock (.slice a es.length ca) = some k → lo ≤ k ∧ k < w0.heap.size := fun k hk => hO.lt hk
  refine enter Try.func26 rfl 78 Try.ntmps26 rfl ?_
  refine seqK fun Q1 kn2 kr3 ke4 => ?_
  refine region ?_
  refine st_e (e_box (v := .agg #[.int .i64 z.1, .int .i64 z.2]) rfl ?_)
  intro w5 hA6
  have hx7 := hA6.ext
  have hs8 := hA6.size
  have hB9 : Blk w5.heap w0.heap.size [.int .i64 z.1, .int .i64 z.2] 31 := hA6.new
  have hB10 := hB.ext hx7
  have hF11 := hO.ext hx7
  have hE12 : Mod (fun k => k = b ∨ Value.ownBlock (.slice a es.length ca) = some k) w0 w5 := hE0.ext hx7
  have hz13 := hE12.le
  have hs14 := hx7.size
  refine st_nil ?_
  refine kn2 _ _ ?_
  refine seqK fun Q15 kn16 kr17 ke18 => ?_
  refine seqK fun Q19 kn20 kr21 ke22 => ?_
  refine region ?_
  refine st_q (v := .pointer (some ⟨b, 0, none⟩)) (x_move rfl) ?_
  refine st_q (v := .bool false) (x_eqlPnil (p := some ⟨b, 0, none⟩) Try.underlying40 rfl rfl) ?_
  refine st_nil ?_
  refine kn20 _ _ ?_
  refine cndF rfl ?_
  refine skip ?_
  refine kn16 _ _ ?_
  refine seqK fun Q23 kn24 kr25 ke26 => ?_
  refine regionD1 [4, 5, 9] [0, 1, 2, 3, 4, 5, 6, 7, 8, 9, 10, 13, 14] (.one 0 (.one 1 (.one 2 (.one 3 (.one 4 (.one 5 (.one 6 (.one 7 (.one 8 (.one 9 (.one 10 (.one 11 (.one 12 (.one 13 (.one 14 (.one 15 .done)))))))))))))))) (by kernel_rfl) (by kernel_rfl) ?_
  intro w27 hx28 hs29
  have hB30 := hB10.ext hx28
  have hB31 := hB9.ext hx28
  have hF32 := hF11.ext hx28
  have hE33 : Mod (fun k => k = b ∨ Value.ownBlock (.slice a es.length ca) = some k) w0 w27 := hE12.ext hx28
  have hz34 := hE33.le
  have hs35 := hx28.size
  have hS36 : Ext w27 w27 := Below.refl _ _
  refine d_q (v := .pointer (some ⟨b, 0, none⟩)) rfl rfl (fun _ => x_move rfl) ?_
  refine d_q (v := .pointer (some ⟨b, 0, none⟩)) rfl rfl (fun _ => x_move rfl) ?_
  refine d_q (v := .pointer (some ⟨b, 0, none⟩)) rfl rfl (fun _ => x_nilCheck rfl) ?_
  refine d_q (v := .pointer (some ⟨b, 1, none⟩)) rfl rfl (fun _ => x_field (o := 0) T.fa57_1 rfl) ?_
  refine d_l (v := .slice a es.length ca) rfl rfl rfl (fun v38 hw37 => x_load1 T.na55 rfl ((hB30.one 1 rfl).ext hw37)) ?_
  refine d_l (v := .agg #[.int .i64 z.1, .int .i64 z.2]) rfl rfl rfl (fun v40 hw39 => x_loadA [.int .i64 z.1, .int .i64 z.2] T.ag31 rfl ((hB31.cells 0 [.int .i64 z.1, .int .i64 z.2] (cells_at rfl)).ext hw39)) ?_
  refine d_q (v := .pointer (some ⟨b, 0, none⟩)) rfl rfl (fun _ => x_move rfl) ?_
  refine d_q (v := .pointer (some ⟨b, 0, none⟩)) rfl rfl (fun _ => x_nilCheck rfl) ?_
  refine d_q (v := .pointer (some ⟨b, 2, none⟩)) rfl rfl (fun _ => x_field (o := 0) T.fa57_2 rfl) ?_
  refine d_l (v := .int .i64 ((nx : Nat) : Int)) rfl rfl rfl (fun v42 hw41 => x_load1 T.na3 rfl ((hB30.one 2 rfl).ext hw41)) ?_
  refine d_q (v := .agg #[.int .i64 z.1, .int .i64 z.2, .int .i64 ((nx : Nat) : Int)]) rfl rfl (fun _ => x_build (fun _ => by kernel_rfl)) ?_
  refine d_e (by decide) (d_e' rfl rfl (e_buildSlice (cs := [.int .i64 z.1, .int .i64 z.2, .int .i64 ((nx : Nat) : Int)]) (e := 78) (fun _ => by kernel_rfl) ?_))
  intro w43 hA44
  have hx45 := hA44.ext
  have hs46 := hA44.size
  have hB47 : Blk w43.heap w27.heap.size [.int .i64 z.1, .int .i64 z.2, .int .i64 ((nx : Nat) : Int)] 78 := hA44.new
  have hB48 := hB30.ext hx45
  have hB49 := hB31.ext hx45
  have hF50 := hF32.ext hx45
  have hE51 : Mod (fun k => k = b ∨ Value.ownBlock (.slice a es.length ca) = some k) w0 w43 := hE33.ext hx45
  have hz52 := hE51.le
  have hs53 := hx45.size
  have hS54 := hS36.trans (hx45.mono hS36.size)
  refine ⟨fun _ => hS54, ?_⟩
  refine d_e (by decide) (d_e' rfl rfl (e_appendX T.sl55 rfl rfl hF50 (hB47.src1 (k := 3) (m := 1) rfl (by omega)) (ones (by rfl)) (by omega) (by decide) (by omega) ?_))
  intro v55 w56 hO57 hG58 hN59 hW60
  have hB61 := hB48.grown hG58 (fun e => by first | exact hne e | (have := hvl _ e; omega))
  have hB62 := hB49.grown hG58 (fun e => by first | exact hne e | (have := hvl _ e; omega))
  have hE63 : Mod (fun k => k = b ∨ Value.ownBlock (.slice a es.length ca) = some k) w0 w56 := hE51.grown hG58 (fun b hb => .inl (.inr hb))
  have hz64 := hE63.le
  refine ⟨need_no (by kernel_rfl), ?_⟩
  obtain ⟨b1, c1, rfl, hm1, hO1⟩ := (show Own w56.heap lo 78 3 v55 (es.length + 1) (flat (enE enT) (es ++ [(z, nx)])) from hO57.snoc).ob (hN59 (by omega))
  have hbS : (Value.slice (some ⟨b1, 0, none⟩) (es.length + 1) c1).ownBlock = Value.ownBlock (.slice a es.length ca) ∨ w0.heap.size ≤ b1 := hW60.imp (fun e => e) (fun e => by have := e.2 b1 rfl; omega)
  have hb1 : b1 ≠ b := fun e => by subst e; rcases hbS with h | h; exact hne h.symm; omega
  have hbS2 : (b1 = b ∨ Value.ownBlock (.slice a es.length ca) = some b1) ∨ w0.heap.size ≤ b1 := hbS.imp (fun e => .inr e.symm) (fun e => e)
  have hl65 := hO1.lo
  have hl66 := hO1.lt
  refine d_q (v := .pointer (some ⟨b, 0, none⟩)) rfl rfl (fun _ => x_nilCheck rfl) ?_
  refine d_q (v := .pointer (some ⟨b, 1, none⟩)) rfl rfl (fun _ => x_field (o := 0) T.fa57_1 rfl) ?_
  refine d_e (by decide) (d_s' rfl rfl (e_st (v := .slice ((some ⟨b1, 0, none⟩)) ((es.length + 1)) c1) T.sz55 rfl rfl hB61 (by simp [Value.cells]) (by rfl) ?_))
  intro w67 hP68
  have hB69 : Blk w67.heap b [g, .slice ((some ⟨b1, 0, none⟩)) ((es.length + 1)) c1, .int .i64 ((nx : Nat) : Int)] 57 := hP68.new
  have hs70 := hP68.size
  have hB71 := hB62.pt hP68 (by omega)
  have hF72 := hO1.pt hP68 (by omega)
  have hE73 : Mod (fun k => k = b ∨ Value.ownBlock (.slice a es.length ca) = some k) w0 w67 := hE63.pt hP68 (.inl (.inl rfl))
  have hz74 := hE73.le
  refine ⟨need_no (by kernel_rfl), ?_⟩
  refine d_done ?_
  refine kn24 _ _ ?_
  refine seqK fun Q75 kn76 kr77 ke78 => ?_
  refine region ?_
  refine st_q (v := .pointer (some ⟨b, 0, none⟩)) (x_move rfl) ?_
  refine st_q (v := .pointer (some ⟨b, 0, none⟩)) (x_nilCheck rfl) ?_
  refine st_q (v := .pointer (some ⟨b, 2, none⟩)) (x_field (o := 0) T.fa57_2 rfl) ?_
  refine st_q (v := .int .i64 ((nx : Nat) : Int)) (x_load1 T.na3 rfl (hB69.one 2 rfl)) ?_
  refine st_q (v := .int .i64 (((nx + 1) : Nat) : Int)) (x_addN rfl rfl (by omega)) ?_
  refine st_q (v := .pointer (some ⟨b, 0, none⟩)) (x_nilCheck rfl) ?_
  refine st_q (v := .pointer (some ⟨b, 2, none⟩)) (x_field (o := 0) T.fa57_2 rfl) ?_
  refine st_s (e_st (v := .int .i64 (((nx + 1) : Nat) : Int)) T.sz3 rfl rfl hB69 (by simp [Value.cells]) (by rfl) ?_)
  intro w79 hP80
  have hB81 : Blk w79.heap b [g, .slice ((some ⟨b1, 0, none⟩)) ((es.length + 1)) c1, .int .i64 (((nx + 1) : Nat) : Int)] 57 := hP80.new
  have hs82 := hP80.size
  have hB83 := hB71.pt hP80 (by omega)
  have hF84 := hF72.pt hP80 (by omega)
  have hE85 : Mod (fun k => k = b ∨ Value.ownBlock (.slice a es.length ca) = some k) w0 w79 := hE73.pt hP80 (.inl (.inl rfl))
  have hz86 := hE85.le
  refine st_nil ?_
  refine kn76 _ _ ?_
  refine seqK fun Q87 kn88 kr89 ke90 => ?_
  refine region ?_
  refine st_q (v := .pointer (some ⟨b, 0, none⟩)) (x_move rfl) ?_
  refine st_q (v := .pointer (some ⟨b, 0, none⟩)) (x_nilCheck rfl) ?_
  refine st_q (v := .pointer (some ⟨b, 1, none⟩)) (x_field (o := 0) T.fa57_1 rfl) ?_
  refine st_q (v := .slice ((some ⟨b1, 0, none⟩)) ((es.length + 1)) c1) (x_load1 T.na55 rfl (hB81.one 1 rfl)) ?_
  refine st_q (v := .int .i64 (((es.length + 1) : Nat) : Int)) (x_lenSl rfl Try.underlying55 rfl) ?_
  refine st_q (v := .int .i64 ((((es.length + 1) - 1) : Nat) : Int)) (x_subN rfl rfl (by omega) (by omega)) ?_
  refine st_q (v := .int .i64 ((((es.length + 1) - 1) : Nat) : Int)) (x_assign rfl) ?_
  refine st_nil ?_
  refine kn88 _ _ ?_
  refine blockK fun Q91 kn92 kr93 kx94 kb95 => ?_
  refine loopK (α := Nat × (List ((Int × Int) × Nat))) (fun x => [(0, .pointer (some ⟨b, 0, none⟩)), (4, .int .i64 ((x.1 : Nat) : Int))]) (fun x w96 => Mod (fun k => k = b ∨ Value.ownBlock (.slice a es.length ca) = some k) w0 w96 ∧ Blk w96.heap b [g, .slice ((some ⟨b1, 0, none⟩)) ((es.length + 1)) c1, .int .i64 (((nx + 1) : Nat) : Int)] 57 ∧ OB w96.heap lo 78 3 b1 c1 (flat (enE enT) x.2) ∧ x.2.length = es.length + 1 ∧ UpI (ah c) x.2 x.1 ∧ x.2.Perm (es ++ [(z, nx)])) (fun x => x.1) ((es.length + 1 - 1), (es ++ [(z, nx)])) ⟨rfl, rfl, trivial⟩ ?_ ?_
  ·
    refine ⟨hE85, ?_⟩
    try dsimp only
    exact ⟨hB81, hF84, by simp, by rw [Nat.add_sub_cancel]; exact up_start hhp _, List.Perm.refl _⟩
  ·
    rintro τ97 ⟨i, es2⟩ w98 ⟨hx99, ⟨hB1, hO2, hLL, hU, hP⟩⟩
    try dsimp only at hB1 hO2 hLL hU hP
    have hz100 := hx99.le
    intro Q101 kn102 kr103 ke104
    have hl105 := hO2.lo
    have hl106 := hO2.lt
    have hi0 := hU.1
    refine seqK fun Q107 kn108 kr109 ke110 => ?_
    refine seqK fun Q111 kn112 kr113 ke114 => ?_
    refine region ?_
    refine st_q (v := .int .i64 ((i : Nat) : Int)) (x_move rfl) ?_
    refine st_q (v := .bool (decide (0 < i))) (x_gtrN rfl rfl) ?_
    refine st_if (p := 0 < i) (x_move rfl) (fun h115 => ?_) (fun h115 => ?_)
    ·
      refine st_gq 2 37 rfl rfl (by decide) ?_
      refine st_q (v := .pointer (some ⟨b, 0, none⟩)) (x_move rfl) ?_
      refine st_gq 2 37 rfl rfl (by decide) ?_
      refine st_q (v := .int .i64 ((i : Nat) : Int)) (x_move rfl) ?_
      refine st_gq 2 37 rfl rfl (by decide) ?_
      refine st_q (v := .int .i64 ((i : Nat) : Int)) (x_move rfl) ?_
      refine st_gq 2 37 rfl rfl (by decide) ?_
      refine st_q (v := .int .i64 (((i - 1) : Nat) : Int)) (x_subN rfl rfl (by omega) (by omega)) ?_
      refine st_gq 2 37 rfl rfl (by decide) ?_
      refine st_q (v := .int .i64 ((((i - 1) / 2) : Nat) : Int)) (x_quoN rfl rfl (by omega) (by omega)) ?_
      refine st_gq 2 37 rfl rfl (by decide) ?_
      have hH118 := HeapR.of_ob (enE_len enT_len) hge hB1 hO2 hm1 hLL hb1
      refine st_c (t_call [.pointer (some ⟨b, 0, none⟩), .int .i64 ((i : Nat) : Int), .int .i64 ((((i - 1) / 2) : Nat) : Int)] T.cf58 rfl rfl) (ahead58 lo fc c hcf hcmp g hg b (nx + 1) _ es2 i ((i - 1) / 2) _ hH118 (by omega) (by omega)) ?_
      rintro _ w116 ⟨rfl, hx117⟩
      refine ⟨_, rfl, ?_⟩
      have hB119 := hB1.ext hx117
      have hF120 := hO2.ext hx117
      have hE121 : Mod (fun k => k = b ∨ Value.ownBlock (.slice a es.length ca) = some k) w0 w116 := hx99.ext hx117
      have hz122 := hE121.le
      have hs123 := hx117.size
      refine st_q (v := .bool (decide (ah c (el es2 i) (el es2 ((i - 1) / 2))))) (x_pickT rfl rfl) ?_
      refine st_nil ?_
      refine kn112 _ _ ?_
      refine cnd (p := ah c (el es2 i) (el es2 ((i - 1) / 2))) rfl (fun h124 => ?_) (fun h124 => ?_)
      ·
        refine skip ?_
        refine kn108 _ _ ?_
        refine seqK fun Q125 kn126 kr127 ke128 => ?_
        refine blockK fun Q129 kn130 kr131 kx132 kb133 => ?_
        refine regionD1 [3, 8, 15, 20, 24, 27] [0, 1, 2, 3, 4, 5, 6, 7, 8, 9, 10, 11, 12, 13, 14, 15, 16, 17, 18, 19, 20, 21, 22, 23, 24, 25, 26, 27, 28, 30] (.one 0 (.one 1 (.one 2 (.one 3 (.one 4 (.one 5 (.one 6 (.one 7 (.one 8 (.one 9 (.one 10 (.one 11 (.one 12 (.one 13 (.one 14 (.one 15 (.one 16 (.one 17 (.one 18 (.one 19 (.one 20 (.one 21 (.one 22 (.one 23 (.one 24 (.one 25 (.one 26 (.one 27 (.one 28 (.one 29 (.one 30 (.one 31 .done)))))))))))))))))))))))))))))))) (by kernel_rfl) (by kernel_rfl) ?_
        intro w134 hx135 hs136
        have hB137 := hB119.ext hx135
        have hF138 := hF120.ext hx135
        have hE139 : Mod (fun k => k = b ∨ Value.ownBlock (.slice a es.length ca) = some k) w0 w134 := hE121.ext hx135
        have hz140 := hE139.le
        have hs141 := hx135.size
        have hS142 : Ext w134 w134 := Below.refl _ _
        refine d_q (v := .pointer (some ⟨b, 0, none⟩)) rfl rfl (fun _ => x_move rfl) ?_
        refine d_q (v := .pointer (some ⟨b, 0, none⟩)) rfl rfl (fun _ => x_nilCheck rfl) ?_
        refine d_q (v := .pointer (some ⟨b, 1, none⟩)) rfl rfl (fun _ => x_field (o := 0) T.fa57_1 rfl) ?_
        refine d_l (v := .slice ((some ⟨b1, 0, none⟩)) ((es.length + 1)) c1) rfl rfl rfl (fun v144 hw143 => x_load1 T.na55 rfl ((hB137.one 1 rfl).ext hw143)) ?_
        refine d_q (v := .int .i64 ((i : Nat) : Int)) rfl rfl (fun _ => x_move rfl) ?_
        refine d_q (v := .pointer (some ⟨b, 0, none⟩)) rfl rfl (fun _ => x_move rfl) ?_
        refine d_q (v := .pointer (some ⟨b, 0, none⟩)) rfl rfl (fun _ => x_nilCheck rfl) ?_
        refine d_q (v := .pointer (some ⟨b, 1, none⟩)) rfl rfl (fun _ => x_field (o := 0) T.fa57_1 rfl) ?_
        refine d_l (v := .slice ((some ⟨b1, 0, none⟩)) ((es.length + 1)) c1) rfl rfl rfl (fun v146 hw145 => x_load1 T.na55 rfl ((hB137.one 1 rfl).ext hw145)) ?_
        refine d_q (v := .int .i64 ((i : Nat) : Int)) rfl rfl (fun _ => x_move rfl) ?_
        refine d_q (v := .int .i64 (((i - 1) : Nat) : Int)) rfl rfl (fun _ => x_subN rfl rfl (by omega) (by omega)) ?_
        refine d_q (v := .int .i64 ((((i - 1) / 2) : Nat) : Int)) rfl rfl (fun _ => x_quoN rfl rfl (by omega) (by omega)) ?_
        refine d_q (v := .pointer (some ⟨b, 0, none⟩)) rfl rfl (fun _ => x_move rfl) ?_
        refine d_q (v := .pointer (some ⟨b, 0, none⟩)) rfl rfl (fun _ => x_nilCheck rfl) ?_
        refine d_q (v := .pointer (some ⟨b, 1, none⟩)) rfl rfl (fun _ => x_field (o := 0) T.fa57_1 rfl) ?_
        refine d_l (v := .slice ((some ⟨b1, 0, none⟩)) ((es.length + 1)) c1) rfl rfl rfl (fun v148 hw147 => x_load1 T.na55 rfl ((hB137.one 1 rfl).ext hw147)) ?_
        refine d_q (v := .int .i64 ((i : Nat) : Int)) rfl rfl (fun _ => x_move rfl) ?_
        refine d_q (v := .int .i64 (((i - 1) : Nat) : Int)) rfl rfl (fun _ => x_subN rfl rfl (by omega) (by omega)) ?_
        refine d_q (v := .int .i64 ((((i - 1) / 2) : Nat) : Int)) rfl rfl (fun _ => x_quoN rfl rfl (by omega) (by omega)) ?_
        refine d_q (v := .pointer (some ⟨b1, 0 + (((i - 1) / 2)) * 3, none⟩)) rfl rfl (fun _ => x_index T.sl55 rfl rfl (by omega)) ?_
        refine d_l (v := .agg #[.int .i64 ((el es2 (((i - 1) / 2))).1.1), .int .i64 ((el es2 (((i - 1) / 2))).1.2), .int .i64 (((el es2 (((i - 1) / 2))).2 : Nat) : Int)]) rfl rfl rfl (fun v150 hw149 => x_loadA [.int .i64 ((el es2 (((i - 1) / 2))).1.1), .int .i64 ((el es2 (((i - 1) / 2))).1.2), .int .i64 (((el es2 (((i - 1) / 2))).2 : Nat) : Int)] T.ag78 rfl ((hF138.cells.elem (enE_len enT_len) (i := ((i - 1) / 2)) (by omega)).ext hw149)) ?_
        refine d_q (v := .pointer (some ⟨b, 0, none⟩)) rfl rfl (fun _ => x_move rfl) ?_
        refine d_q (v := .pointer (some ⟨b, 0, none⟩)) rfl rfl (fun _ => x_nilCheck rfl) ?_
        refine d_q (v := .pointer (some ⟨b, 1, none⟩)) rfl rfl (fun _ => x_field (o := 0) T.fa57_1 rfl) ?_
        refine d_l (v := .slice ((some ⟨b1, 0, none⟩)) ((es.length + 1)) c1) rfl rfl rfl (fun v152 hw151 => x_load1 T.na55 rfl ((hB137.one 1 rfl).ext hw151)) ?_
        refine d_q (v := .int .i64 ((i : Nat) : Int)) rfl rfl (fun _ => x_move rfl) ?_
        refine d_q (v := .pointer (some ⟨b1, 0 + i * 3, none⟩)) rfl rfl (fun _ => x_index T.sl55 rfl rfl (by omega)) ?_
        refine d_l (v := .agg #[.int .i64 ((el es2 i).1.1), .int .i64 ((el es2 i).1.2), .int .i64 (((el es2 i).2 : Nat) : Int)]) rfl rfl rfl (fun v154 hw153 => x_loadA [.int .i64 ((el es2 i).1.1), .int .i64 ((el es2 i).1.2), .int .i64 (((el es2 i).2 : Nat) : Int)] T.ag78 rfl ((hF138.cells.elem (enE_len enT_len) (i := i) (by omega)).ext hw153)) ?_
        refine d_q (v := .pointer (some ⟨b1, 0 + i * 3, none⟩)) rfl rfl (fun _ => x_index T.sl55 rfl rfl (by omega)) ?_
        refine d_e (by decide) (d_s' rfl rfl (e_stO (v := .agg #[.int .i64 ((el es2 (((i - 1) / 2))).1.1), .int .i64 ((el es2 (((i - 1) / 2))).1.2), .int .i64 (((el es2 (((i - 1) / 2))).2 : Nat) : Int)]) (u := (el es2 (((i - 1) / 2)))) (enE_len enT_len) T.sz78 rfl rfl rfl hF138 (by first | omega | (rw [List.length_set]; omega)) (by rfl) ?_))
        intro w155 _ hP156 hB157
        have hs158 := hP156.size
        have hB159 := hB137.pt hP156 (by omega)
        have hE160 : Mod (fun k => k = b ∨ Value.ownBlock (.slice a es.length ca) = some k) w0 w155 := hE139.pt hP156 (hbS2)
        have hz161 := hE160.le
        refine ⟨need_no (by kernel_rfl), ?_⟩
        refine d_q (v := .pointer (some ⟨b1, 0 + (((i - 1) / 2)) * 3, none⟩)) rfl rfl (fun _ => x_index T.sl55 rfl rfl (by omega)) ?_
        refine d_e (by decide) (d_s' rfl rfl (e_stO (v := .agg #[.int .i64 ((el es2 i).1.1), .int .i64 ((el es2 i).1.2), .int .i64 (((el es2 i).2 : Nat) : Int)]) (u := (el es2 i)) (enE_len enT_len) T.sz78 rfl rfl rfl hB157 (by first | omega | (rw [List.length_set]; omega)) (by rfl) ?_))
        intro w162 _ hP163 hB164
        have hs165 := hP163.size
        have hB166 := hB159.pt hP163 (by omega)
        have hE167 : Mod (fun k => k = b ∨ Value.ownBlock (.slice a es.length ca) = some k) w0 w162 := hE160.pt hP163 (hbS2)
        have hz168 := hE167.le
        refine ⟨need_no (by kernel_rfl), ?_⟩
        refine d_done ?_
        refine kn130 _ _ ?_
        refine kn126 _ _ ?_
        refine region ?_
        refine st_q (v := .int .i64 ((i : Nat) : Int)) (x_move rfl) ?_
        refine st_q (v := .int .i64 (((i - 1) : Nat) : Int)) (x_subN rfl rfl (by omega) (by omega)) ?_
        refine st_q (v := .int .i64 ((((i - 1) / 2) : Nat) : Int)) (x_quoN rfl rfl (by omega) (by omega)) ?_
        refine st_q (v := .int .i64 ((((i - 1) / 2) : Nat) : Int)) (x_assign rfl) ?_
        refine st_nil ?_
        refine kn102 _ (((i - 1) / 2), (swap es2 i ((i - 1) / 2))) _ ⟨rfl, rfl, trivial⟩ ⟨hE167, ?_⟩ ?_
        ·
          try dsimp only
          exact ⟨hB166, hB164, by rw [swap_length]; exact hLL, up_step (ah_swo hL) hU (by omega) (by assumption), (swap_perm (by omega) (by omega)).trans hP⟩
        ·
          (try dsimp only); omega
      ·
        refine exit ?_
        refine ke110 _ _ _ ?_
        refine ke104 _ _ _ ?_
        refine kb95 _ _ ?_
        refine leave0' (P := Try.prog) (fn := Try.f26) rfl ?_
        have hH169 := HeapR.of_ob (enE_len enT_len) hge hB119 hF120 hm1 hLL hb1
        exact ⟨rfl, _, _, hE121, hH169, up_done hU (by first | exact .inl (by omega) | exact .inr (by assumption)), hP, hbS.imp (fun e => e) (fun e k hk => by simp [Value.ownBlock] at hk; omega)⟩
    ·
      refine st_gn 2 37 rfl rfl (by decide) rfl ?_
      refine st_gn 2 37 rfl rfl (by decide) rfl ?_
      refine st_gn 2 37 rfl rfl (by decide) rfl ?_
      refine st_gn 2 37 rfl rfl (by decide) rfl ?_
      refine st_gn 2 37 rfl rfl (by decide) rfl ?_
      refine st_gn 2 37 rfl rfl (by decide) rfl ?_
      refine st_q (v := .bool false) (x_pickF rfl rfl) ?_
      refine st_nil ?_
      refine kn112 _ _ ?_
      refine cndF rfl ?_
      refine exit ?_
      refine ke110 _ _ _ ?_
      refine ke104 _ _ _ ?_
      refine kb95 _ _ ?_
      refine leave0' (P := Try.prog) (fn := Try.f26) rfl ?_
      have hH170 := HeapR.of_ob (enE_len enT_len) hge hB1 hO2 hm1 hLL hb1
      exact ⟨rfl, _, _, hx99, hH170, up_done hU (by first | exact .inl (by omega) | exact .inr (by assumption)), hP, hbS.imp (fun e => e) (fun e k hk => by simp [Value.ownBlock] at hk; omega)⟩

set_option maxHeartbeats 4000000 in
theorem pop28 (lo fc : Nat) (c : (Int × Int) → (Int × Int) → Int) (hcf : CF Try.prog fc) (hcmp : Cmp fc c) (hL : Lawful c) (g : Value) (hg : Told g fc) (b nx : Nat) (v : Value) (es : List ((Int × Int) × Nat)) (w0 : World) (hH : HeapR w0.heap lo 57 78 3 (enE enT) b g v es nx) (hz : 0 < es.length) (hlen : es.length ≤ 4398046511105) (hhp : HP (ah c) es) : Calls Try.prog 28 #[.pointer (some ⟨b, 0, none⟩)] w0 fun e w' => e = .returned (.tuple #[.agg (enT (el es 0).1).toArray, .bool true]) ∧ ∃ v' es', Mod (fun k => k = b ∨ v.ownBlock = some k) w0 w' ∧ HeapR w'.heap lo 57 78 3 (enE enT) b g v' es' nx ∧ HP (ah c) es' ∧ es.Perm (el es 0 :: es') ∧ v'.ownBlock = v.ownBlock := by
  have hE0 : Mod (fun k => k = b ∨ v.ownBlock = some k) w0 w0 := Mod.refl _ _
  have hz0 := hE0.le
  obtain ⟨hge, hB, hO, hne⟩ := hH
  obtain ⟨b1, c1, rfl, hm1, hO1⟩ := hO.ob (fun e => by subst e; have := hO.src.capl; omega)
  have hbl := hB.lt
  have hb1 : b1 ≠ b := fun e => hne (congrArg some e)
  have hbl1 := hO1.lt
  have hl1 := hO1.lo
  have hl2 := hO1.lt
  refine enter Try.func28 rfl 104 Try.ntmps28 rfl ?_
  refine seqK fun Q3 kn4 kr5 ke6 => ?_
  refine region ?_
  refine st_e (e_alloc T.zv31 ?_)
  intro w7 hA8
  have hx9 := hA8.ext
  have hs10 := hA8.size
  have hB11 : Blk w7.heap w0.heap.size [.int .i64 ((0 : Nat) : Int), .int .i64 ((0 : Nat) : Int)] 31 := hA8.new
  have hB12 := hB.ext hx9
  have hF13 := hO1.ext hx9
  have hE14 : Mod (fun k => k = b ∨ Value.ownBlock (.slice (some ⟨b1, 0, none⟩) es.length c1) = some k) w0 w7 := hE0.ext hx9
  have hz15 := hE14.le
  have hs16 := hx9.size
  refine st_q (v := .bool false) (x_assign rfl) ?_
  refine st_nil ?_
  refine kn4 _ _ ?_
  refine seqK fun Q17 kn18 kr19 ke20 => ?_
  refine region ?_
  refine st_q (v := .pointer (some ⟨b, 0, none⟩)) (x_move rfl) ?_
  have hH23 := HeapR.of_ob (enE_len enT_len) hge hB12 hF13 (m := es.length) hm1 rfl hb1
  refine st_c (t_call [.pointer (some ⟨b, 0, none⟩)] T.cf29 rfl rfl) (peek29_1 lo b nx g _ es _ hH23 (by omega)) ?_
  rintro _ w21 ⟨rfl, hx22⟩
  refine ⟨_, rfl, ?_⟩
  have hB24 := hB12.ext hx22
  have hB25 := hB11.ext hx22
  have hF26 := hF13.ext hx22
  have hE27 : Mod (fun k => k = b ∨ Value.ownBlock (.slice (some ⟨b1, 0, none⟩) es.length c1) = some k) w0 w21 := hE14.ext hx22
  have hz28 := hE27.le
  have hs29 := hx22.size
  refine st_q (v := .tuple #[.agg #[.int .i64 ((el es 0).1.1), .int .i64 ((el es 0).1.2)], .bool true]) (x_move rfl) ?_
  refine st_q (v := .agg #[.int .i64 ((el es 0).1.1), .int .i64 ((el es 0).1.2)]) (x_extract rfl rfl) ?_
  refine st_q (v := .bool true) (x_extract rfl rfl) ?_
  refine st_e (e_alloc T.zv31 ?_)
  intro w30 hA31
  have hx32 := hA31.ext
  have hs33 := hA31.size
  have hB34 : Blk w30.heap w21.heap.size [.int .i64 ((0 : Nat) : Int), .int .i64 ((0 : Nat) : Int)] 31 := hA31.new
  have hB35 := hB24.ext hx32
  have hB36 := hB25.ext hx32
  have hF37 := hF26.ext hx32
  have hE38 : Mod (fun k => k = b ∨ Value.ownBlock (.slice (some ⟨b1, 0, none⟩) es.length c1) = some k) w0 w30 := hE27.ext hx32
  have hz39 := hE38.le
  have hs40 := hx32.size
  refine st_s (e_st (v := .agg #[.int .i64 ((el es 0).1.1), .int .i64 ((el es 0).1.2)]) T.sz31 rfl rfl hB34 (by simp [Value.cells]) (by rfl) ?_)
  intro w41 hP42
  have hB43 : Blk w41.heap w21.heap.size [.int .i64 ((el es 0).1.1), .int .i64 ((el es 0).1.2)] 31 := hP42.new
  have hs44 := hP42.size
  have hB45 := hB35.pt hP42 (by omega)
  have hB46 := hB36.pt hP42 (by omega)
  have hF47 := hF37.pt hP42 (by omega)
  have hE48 : Mod (fun k => k = b ∨ Value.ownBlock (.slice (some ⟨b1, 0, none⟩) es.length c1) = some k) w0 w41 := hE38.pt hP42 (.inr (by omega))
  have hz49 := hE48.le
  refine st_q (v := .bool true) (x_assign rfl) ?_
  refine st_nil ?_
  refine kn18 _ _ ?_
  refine seqK fun Q50 kn51 kr52 ke53 => ?_
  refine seqK fun Q54 kn55 kr56 ke57 => ?_
  refine region ?_
  refine st_q (v := .bool true) (x_move rfl) ?_
  refine st_q (v := .bool false) (x_notB (b := true) rfl) ?_
  refine st_nil ?_
  refine kn55 _ _ ?_
  refine cndF rfl ?_
  refine skip ?_
  refine kn51 _ _ ?_
  refine seqK fun Q58 kn59 kr60 ke61 => ?_
  refine region ?_
  refine st_q (v := .pointer (some ⟨b, 0, none⟩)) (x_move rfl) ?_
  refine st_q (v := .pointer (some ⟨b, 0, none⟩)) (x_nilCheck rfl) ?_
  refine st_q (v := .pointer (some ⟨b, 1, none⟩)) (x_field (o := 0) T.fa57_1 rfl) ?_
  refine st_q (v := .slice ((some ⟨b1, 0, none⟩)) es.length c1) (x_load1 T.na55 rfl (hB45.one 1 rfl)) ?_
  refine st_q (v := .int .i64 ((es.length : Nat) : Int)) (x_lenSl rfl Try.underlying55 rfl) ?_
  refine st_q (v := .int .i64 (((es.length - 1) : Nat) : Int)) (x_subN rfl rfl (by omega) (by omega)) ?_
  refine st_q (v := .int .i64 (((es.length - 1) : Nat) : Int)) (x_assign rfl) ?_
  refine st_nil ?_
  refine kn59 _ _ ?_
  refine seqK fun Q62 kn63 kr64 ke65 => ?_
  refine regionD1 [3, 7, 10] [0, 1, 2, 3, 4, 5, 6, 7, 8, 9, 10, 11] (.one 0 (.one 1 (.one 2 (.one 3 (.one 4 (.one 5 (.one 6 (.one 7 (.one 8 (.one 9 (.one 10 (.one 11 (.one 12 .done))))))))))))) (by kernel_rfl) (by kernel_rfl) ?_
  intro w66 hx67 hs68
  have hB69 := hB45.ext hx67
  have hB70 := hB46.ext hx67
  have hB71 := hB43.ext hx67
  have hF72 := hF47.ext hx67
  have hE73 : Mod (fun k => k = b ∨ Value.ownBlock (.slice (some ⟨b1, 0, none⟩) es.length c1) = some k) w0 w66 := hE48.ext hx67
  have hz74 := hE73.le
  have hs75 := hx67.size
  have hS76 : Ext w66 w66 := Below.refl _ _
  refine d_q (v := .pointer (some ⟨b, 0, none⟩)) rfl rfl (fun _ => x_move rfl) ?_
  refine d_q (v := .pointer (some ⟨b, 0, none⟩)) rfl rfl (fun _ => x_nilCheck rfl) ?_
  refine d_q (v := .pointer (some ⟨b, 1, none⟩)) rfl rfl (fun _ => x_field (o := 0) T.fa57_1 rfl) ?_
  refine d_l (v := .slice ((some ⟨b1, 0, none⟩)) es.length c1) rfl rfl rfl (fun v78 hw77 => x_load1 T.na55 rfl ((hB69.one 1 rfl).ext hw77)) ?_
  refine d_q (v := .pointer (some ⟨b, 0, none⟩)) rfl rfl (fun _ => x_move rfl) ?_
  refine d_q (v := .pointer (some ⟨b, 0, none⟩)) rfl rfl (fun _ => x_nilCheck rfl) ?_
  refine d_q (v := .pointer (some ⟨b, 1, none⟩)) rfl rfl (fun _ => x_field (o := 0) T.fa57_1 rfl) ?_
  refine d_l (v := .slice ((some ⟨b1, 0, none⟩)) es.length c1) rfl rfl rfl (fun v80 hw79 => x_load1 T.na55 rfl ((hB69.one 1 rfl).ext hw79)) ?_
  refine d_q (v := .int .i64 (((es.length - 1) : Nat) : Int)) rfl rfl (fun _ => x_move rfl) ?_
  refine d_q (v := .pointer (some ⟨b1, 0 + ((es.length - 1)) * 3, none⟩)) rfl rfl (fun _ => x_index T.sl55 rfl rfl (by omega)) ?_
  refine d_l (v := .agg #[.int .i64 ((el es ((es.length - 1))).1.1), .int .i64 ((el es ((es.length - 1))).1.2), .int .i64 (((el es ((es.length - 1))).2 : Nat) : Int)]) rfl rfl rfl (fun v82 hw81 => x_loadA [.int .i64 ((el es ((es.length - 1))).1.1), .int .i64 ((el es ((es.length - 1))).1.2), .int .i64 (((el es ((es.length - 1))).2 : Nat) : Int)] T.ag78 rfl ((hF72.cells.elem (enE_len enT_len) (i := (es.length - 1)) (by omega)).ext hw81)) ?_
  refine d_q (v := .pointer (some ⟨b1, 0 + 0 * 3, none⟩)) rfl rfl (fun _ => x_index T.sl55 rfl rfl (by omega)) ?_
  refine d_e (by decide) (d_s' rfl rfl (e_stO (v := .agg #[.int .i64 ((el es ((es.length - 1))).1.1), .int .i64 ((el es ((es.length - 1))).1.2), .int .i64 (((el es ((es.length - 1))).2 : Nat) : Int)]) (u := (el es ((es.length - 1)))) (enE_len enT_len) T.sz78 rfl rfl rfl hF72 (by first | omega | (rw [List.length_set]; omega)) (by rfl) ?_))
  intro w83 _ hP84 hB85
  have hs86 := hP84.size
  have hB87 := hB69.pt hP84 (by omega)
  have hB88 := hB70.pt hP84 (by omega)
  have hB89 := hB71.pt hP84 (by omega)
  have hE90 : Mod (fun k => k = b ∨ Value.ownBlock (.slice (some ⟨b1, 0, none⟩) es.length c1) = some k) w0 w83 := hE73.pt hP84 (.inl (.inr rfl))
  have hz91 := hE90.le
  refine ⟨need_no (by kernel_rfl), ?_⟩
  refine d_done ?_
  refine kn63 _ _ ?_
  refine seqK fun Q92 kn93 kr94 ke95 => ?_
  refine region ?_
  refine st_q (v := .pointer (some ⟨b, 0, none⟩)) (x_move rfl) ?_
  refine st_q (v := .pointer (some ⟨b, 0, none⟩)) (x_nilCheck rfl) ?_
  refine st_q (v := .pointer (some ⟨b, 1, none⟩)) (x_field (o := 0) T.fa57_1 rfl) ?_
  refine st_q (v := .slice ((some ⟨b1, 0, none⟩)) es.length c1) (x_load1 T.na55 rfl (hB87.one 1 rfl)) ?_
  refine st_q (v := .int .i64 (((es.length - 1) : Nat) : Int)) (x_move rfl) ?_
  refine st_q (v := .agg #[.int .i64 ((0 : Nat) : Int), .int .i64 ((0 : Nat) : Int), .int .i64 ((0 : Nat) : Int)]) (x_build (fun _ => by kernel_rfl)) ?_
  refine st_q (v := .pointer (some ⟨b1, 0 + ((es.length - 1)) * 3, none⟩)) (x_index T.sl55 rfl rfl (by omega)) ?_
  refine st_s (e_stO (v := .agg #[.int .i64 ((0 : Nat) : Int), .int .i64 ((0 : Nat) : Int), .int .i64 ((0 : Nat) : Int)]) (u := ((((0 : Nat) : Int), ((0 : Nat) : Int)), 0)) (enE_len enT_len) T.sz78 rfl rfl rfl hB85 (by first | omega | (rw [List.length_set]; omega)) (by rfl) ?_)
  intro w96 _ hP97 hB98
  have hs99 := hP97.size
  have hB100 := hB87.pt hP97 (by omega)
  have hB101 := hB88.pt hP97 (by omega)
  have hB102 := hB89.pt hP97 (by omega)
  have hE103 : Mod (fun k => k = b ∨ Value.ownBlock (.slice (some ⟨b1, 0, none⟩) es.length c1) = some k) w0 w96 := hE90.pt hP97 (.inl (.inr rfl))
  have hz104 := hE103.le
  refine st_nil ?_
  refine kn93 _ _ ?_
  refine seqK fun Q105 kn106 kr107 ke108 => ?_
  refine region ?_
  refine st_q (v := .pointer (some ⟨b, 0, none⟩)) (x_move rfl) ?_
  refine st_q (v := .pointer (some ⟨b, 0, none⟩)) (x_move rfl) ?_
  refine st_q (v := .pointer (some ⟨b, 0, none⟩)) (x_nilCheck rfl) ?_
  refine st_q (v := .pointer (some ⟨b, 1, none⟩)) (x_field (o := 0) T.fa57_1 rfl) ?_
  refine st_q (v := .slice ((some ⟨b1, 0, none⟩)) es.length c1) (x_load1 T.na55 rfl (hB100.one 1 rfl)) ?_
  refine st_q (v := .int .i64 (((es.length - 1) : Nat) : Int)) (x_move rfl) ?_
  refine st_q (v := .slice ((some ⟨b1, 0, none⟩)) ((es.length - 1)) c1) (x_sliceHi T.sl55 rfl rfl (by omega)) ?_
  refine st_q (v := .pointer (some ⟨b, 0, none⟩)) (x_nilCheck rfl) ?_
  refine st_q (v := .pointer (some ⟨b, 1, none⟩)) (x_field (o := 0) T.fa57_1 rfl) ?_
  refine st_s (e_st (v := .slice ((some ⟨b1, 0, none⟩)) ((es.length - 1)) c1) T.sz55 rfl rfl hB100 (by simp [Value.cells]) (by rfl) ?_)
  intro w109 hP110
  have hB111 : Blk w109.heap b [g, .slice ((some ⟨b1, 0, none⟩)) ((es.length - 1)) c1, .int .i64 ((nx : Nat) : Int)] 57 := hP110.new
  have hs112 := hP110.size
  have hB113 := hB101.pt hP110 (by omega)
  have hB114 := hB102.pt hP110 (by omega)
  have hF115 := hB98.pt hP110 (by omega)
  have hE116 : Mod (fun k => k = b ∨ Value.ownBlock (.slice (some ⟨b1, 0, none⟩) es.length c1) = some k) w0 w109 := hE103.pt hP110 (.inl (.inl rfl))
  have hz117 := hE116.le
  refine st_nil ?_
  refine kn106 _ _ ?_
  refine seqK fun Q118 kn119 kr120 ke121 => ?_
  refine region ?_
  refine st_q (v := .int .i64 ((0 : Nat) : Int)) (x_assign rfl) ?_
  refine st_nil ?_
  refine kn119 _ _ ?_
  refine blockK fun Q122 kn123 kr124 kx125 kb126 => ?_
  refine loopK (α := Nat × (List ((Int × Int) × Nat))) (fun x => [(0, .pointer (some ⟨b, 0, none⟩)), (2, .pointer (some ⟨w0.heap.size, 0, none⟩)), (4, .pointer (some ⟨w21.heap.size, 0, none⟩)), (6, .int .i64 (((es.length - 1) : Nat) : Int)), (7, .int .i64 ((x.1 : Nat) : Int))]) (fun x w127 => Mod (fun k => k = b ∨ Value.ownBlock (.slice (some ⟨b1, 0, none⟩) es.length c1) = some k) w0 w127 ∧ Blk w127.heap b [g, .slice ((some ⟨b1, 0, none⟩)) ((es.length - 1)) c1, .int .i64 ((nx : Nat) : Int)] 57 ∧ OB w127.heap lo 78 3 b1 c1 (flat (enE enT) x.2) ∧ Blk w127.heap w0.heap.size [.int .i64 ((0 : Nat) : Int), .int .i64 ((0 : Nat) : Int)] 31 ∧ Blk w127.heap w21.heap.size [.int .i64 ((el es 0).1.1), .int .i64 ((el es 0).1.2)] 31 ∧ x.2.length = es.length - 1 ∧ x.1 ≤ es.length ∧ DownI (ah c) x.2 x.1 ∧ es.Perm (el es 0 :: x.2)) (fun x => es.length - x.1) (0, ((es.set 0 (el es (es.length - 1))).take (es.length - 1))) ⟨rfl, rfl, rfl, rfl, rfl, trivial⟩ ?_ ?_
  ·
    refine ⟨hE116, ?_⟩
    try dsimp only
    have hT := hF115.take (es.length - 1)
    rw [take_set_le _ (Nat.le_refl _)] at hT
    exact ⟨hB111, hT, hB113, hB114, by rw [List.length_take, List.length_set]; omega, Nat.zero_le _, down_start hhp (by omega), pop_perm (by omega)⟩
  ·
    rintro τ128 ⟨i, es2⟩ w129 ⟨hx130, ⟨hB1, hO2, hX1, hX2, hLL, hi, hD, hP⟩⟩
    try dsimp only at hB1 hO2 hX1 hX2 hLL hi hD hP
    have hz131 := hx130.le
    intro Q132 kn133 kr134 ke135
    have hl136 := hO2.lo
    have hl137 := hO2.lt
    refine blockK fun Q138 kn139 kr140 kx141 kb142 => ?_
    refine seqK fun Q143 kn144 kr145 ke146 => ?_
    refine region ?_
    refine st_q (v := .int .i64 ((i : Nat) : Int)) (x_move rfl) ?_
    refine st_q (v := .int .i64 (((2 * i) : Nat) : Int)) (x_mulN rfl rfl (by omega)) ?_
    refine st_q (v := .int .i64 ((((2 * i) + 1) : Nat) : Int)) (x_addN rfl rfl (by omega)) ?_
    refine st_q (v := .int .i64 ((((2 * i) + 1) : Nat) : Int)) (x_assign rfl) ?_
    refine st_nil ?_
    refine kn144 _ _ ?_
    refine seqK fun Q147 kn148 kr149 ke150 => ?_
    refine seqK fun Q151 kn152 kr153 ke154 => ?_
    refine region ?_
    refine st_q (v := .int .i64 ((((2 * i) + 1) : Nat) : Int)) (x_move rfl) ?_
    refine st_q (v := .int .i64 (((es.length - 1) : Nat) : Int)) (x_move rfl) ?_
    refine st_q (v := .bool (decide (((es.length - 1)) ≤ (((2 * i) + 1))))) (x_geqN rfl rfl) ?_
    refine st_nil ?_
    refine kn152 _ _ ?_
    refine cnd (p := ((es.length - 1)) ≤ (((2 * i) + 1))) rfl (fun h155 => ?_) (fun h155 => ?_)
    ·
      refine seqK fun Q156 kn157 kr158 ke159 => ?_
      refine region ?_
      refine st_q (v := .agg #[.int .i64 ((el es 0).1.1), .int .i64 ((el es 0).1.2)]) (x_loadA [.int .i64 ((el es 0).1.1), .int .i64 ((el es 0).1.2)] T.ag31 rfl (hX2.cells 0 [.int .i64 ((el es 0).1.1), .int .i64 ((el es 0).1.2)] (cells_at rfl))) ?_
      refine st_s (e_st (v := .agg #[.int .i64 ((el es 0).1.1), .int .i64 ((el es 0).1.2)]) T.sz31 rfl rfl hX1 (by simp [Value.cells]) (by rfl) ?_)
      intro w160 hP161
      have hB162 : Blk w160.heap w0.heap.size [.int .i64 ((el es 0).1.1), .int .i64 ((el es 0).1.2)] 31 := hP161.new
      have hs163 := hP161.size
      have hB164 := hB1.pt hP161 (by omega)
      have hB165 := hX2.pt hP161 (by omega)
      have hF166 := hO2.pt hP161 (by omega)
      have hE167 : Mod (fun k => k = b ∨ Value.ownBlock (.slice (some ⟨b1, 0, none⟩) es.length c1) = some k) w0 w160 := hx130.pt hP161 (.inr (by omega))
      have hz168 := hE167.le
      refine st_q (v := .bool true) (x_assign rfl) ?_
      refine st_nil ?_
      refine kn157 _ _ ?_
      refine ret ?_
      refine kr149 _ _ ?_
      refine kr140 _ _ ?_
      refine kr134 _ _ ?_
      refine kr124 _ _ ?_
      refine leaveCT (P := Try.prog) (fn := Try.f28) (t := 2) (u := 3) (T := 31) (b := w0.heap.size) (o := 0) (cs := [.int .i64 ((el es 0).1.1), .int .i64 ((el es 0).1.2)]) (v := .bool true) rfl T.ag31 rfl (hB162.cells 0 [.int .i64 ((el es 0).1.1), .int .i64 ((el es 0).1.2)] (cells_at rfl)) rfl ?_
      have hH169 := HeapR.of_ob (enE_len enT_len) hge hB164 hF166 (m := (es.length - 1)) (by omega) hLL hb1
      exact ⟨rfl, _, _, hE167, hH169, (by first | exact down_done hD (fun j h0 hj he => by omega) | exact down_stop (ah_swo hL) hD (by first | exact down_min_r (ah_swo hL) rfl (by assumption) | exact down_min_l (ah_swo hL) rfl (by first | exact .inr (by omega) | exact .inl (by assumption))) (by assumption)), hP, rfl⟩
    ·
      refine skip ?_
      refine kn148 _ _ ?_
      refine seqK fun Q170 kn171 kr172 ke173 => ?_
      refine seqK fun Q174 kn175 kr176 ke177 => ?_
      refine region ?_
      refine st_q (v := .int .i64 ((((2 * i) + 1) : Nat) : Int)) (x_move rfl) ?_
      refine st_q (v := .int .i64 (((((2 * i) + 1) + 1) : Nat) : Int)) (x_addN rfl rfl (by omega)) ?_
      refine st_q (v := .int .i64 (((es.length - 1) : Nat) : Int)) (x_move rfl) ?_
      refine st_q (v := .bool (decide (((((2 * i) + 1) + 1)) < ((es.length - 1))))) (x_lssN rfl rfl) ?_
      refine st_if (p := ((((2 * i) + 1) + 1)) < ((es.length - 1))) (x_move rfl) (fun h178 => ?_) (fun h178 => ?_)
      ·
        refine st_gq 4 62 rfl rfl (by decide) ?_
        refine st_q (v := .pointer (some ⟨b, 0, none⟩)) (x_move rfl) ?_
        refine st_gq 4 62 rfl rfl (by decide) ?_
        refine st_q (v := .int .i64 ((((2 * i) + 1) : Nat) : Int)) (x_move rfl) ?_
        refine st_gq 4 62 rfl rfl (by decide) ?_
        refine st_q (v := .int .i64 (((((2 * i) + 1) + 1) : Nat) : Int)) (x_addN rfl rfl (by omega)) ?_
        refine st_gq 4 62 rfl rfl (by decide) ?_
        refine st_q (v := .int .i64 ((((2 * i) + 1) : Nat) : Int)) (x_move rfl) ?_
        refine st_gq 4 62 rfl rfl (by decide) ?_
        have hH181 := HeapR.of_ob (enE_len enT_len) hge hB1 hO2 (m := (es.length - 1)) (by omega) hLL hb1
        refine st_c (t_call [.pointer (some ⟨b, 0, none⟩), .int .i64 (((((2 * i) + 1) + 1) : Nat) : Int), .int .i64 ((((2 * i) + 1) : Nat) : Int)] T.cf58 rfl rfl) (ahead58 lo fc c hcf hcmp g hg b nx _ es2 ((((2 * i) + 1) + 1)) (((2 * i) + 1)) _ hH181 (by omega) (by omega)) ?_
        rintro _ w179 ⟨rfl, hx180⟩
        refine ⟨_, rfl, ?_⟩
        have hB182 := hB1.ext hx180
        have hB183 := hX1.ext hx180
        have hB184 := hX2.ext hx180
        have hF185 := hO2.ext hx180
        have hE186 : Mod (fun k => k = b ∨ Value.ownBlock (.slice (some ⟨b1, 0, none⟩) es.length c1) = some k) w0 w179 := hx130.ext hx180
        have hz187 := hE186.le
        have hs188 := hx180.size
        refine st_q (v := .bool (decide (ah c (el es2 ((((2 * i) + 1) + 1))) (el es2 (((2 * i) + 1)))))) (x_pickT rfl rfl) ?_
        refine st_nil ?_
        refine kn175 _ _ ?_
        refine cnd (p := ah c (el es2 ((((2 * i) + 1) + 1))) (el es2 (((2 * i) + 1)))) rfl (fun h189 => ?_) (fun h189 => ?_)
        ·
          refine region ?_
          refine st_q (v := .int .i64 ((((2 * i) + 1) : Nat) : Int)) (x_move rfl) ?_
          refine st_q (v := .int .i64 (((((2 * i) + 1) + 1) : Nat) : Int)) (x_addN rfl rfl (by omega)) ?_
          refine st_q (v := .int .i64 (((((2 * i) + 1) + 1) : Nat) : Int)) (x_assign rfl) ?_
          refine st_nil ?_
          refine kn171 _ _ ?_
          refine seqK fun Q190 kn191 kr192 ke193 => ?_
          refine seqK fun Q194 kn195 kr196 ke197 => ?_
          refine region ?_
          refine st_q (v := .pointer (some ⟨b, 0, none⟩)) (x_move rfl) ?_
          refine st_q (v := .int .i64 (((((2 * i) + 1) + 1) : Nat) : Int)) (x_move rfl) ?_
          refine st_q (v := .int .i64 ((i : Nat) : Int)) (x_move rfl) ?_
          have hH200 := HeapR.of_ob (enE_len enT_len) hge hB182 hF185 (m := (es.length - 1)) (by omega) hLL hb1
          refine st_c (t_call [.pointer (some ⟨b, 0, none⟩), .int .i64 (((((2 * i) + 1) + 1) : Nat) : Int), .int .i64 ((i : Nat) : Int)] T.cf58 rfl rfl) (ahead58 lo fc c hcf hcmp g hg b nx _ es2 ((((2 * i) + 1) + 1)) i _ hH200 (by omega) (by omega)) ?_
          rintro _ w198 ⟨rfl, hx199⟩
          refine ⟨_, rfl, ?_⟩
          have hB201 := hB182.ext hx199
          have hB202 := hB183.ext hx199
          have hB203 := hB184.ext hx199
          have hF204 := hF185.ext hx199
          have hE205 : Mod (fun k => k = b ∨ Value.ownBlock (.slice (some ⟨b1, 0, none⟩) es.length c1) = some k) w0 w198 := hE186.ext hx199
          have hz206 := hE205.le
          have hs207 := hx199.size
          refine st_q (v := .bool (decide (¬ (ah c (el es2 ((((2 * i) + 1) + 1))) (el es2 i))))) (x_notP rfl) ?_
          refine st_nil ?_
          refine kn195 _ _ ?_
          refine cnd (p := ¬ (ah c (el es2 ((((2 * i) + 1) + 1))) (el es2 i))) rfl (fun h208 => ?_) (fun h208 => ?_)
          ·
            refine seqK fun Q209 kn210 kr211 ke212 => ?_
            refine region ?_
            refine st_q (v := .agg #[.int .i64 ((el es 0).1.1), .int .i64 ((el es 0).1.2)]) (x_loadA [.int .i64 ((el es 0).1.1), .int .i64 ((el es 0).1.2)] T.ag31 rfl (hB203.cells 0 [.int .i64 ((el es 0).1.1), .int .i64 ((el es 0).1.2)] (cells_at rfl))) ?_
            refine st_s (e_st (v := .agg #[.int .i64 ((el es 0).1.1), .int .i64 ((el es 0).1.2)]) T.sz31 rfl rfl hB202 (by simp [Value.cells]) (by rfl) ?_)
            intro w213 hP214
            have hB215 : Blk w213.heap w0.heap.size [.int .i64 ((el es 0).1.1), .int .i64 ((el es 0).1.2)] 31 := hP214.new
            have hs216 := hP214.size
            have hB217 := hB201.pt hP214 (by omega)
            have hB218 := hB203.pt hP214 (by omega)
            have hF219 := hF204.pt hP214 (by omega)
            have hE220 : Mod (fun k => k = b ∨ Value.ownBlock (.slice (some ⟨b1, 0, none⟩) es.length c1) = some k) w0 w213 := hE205.pt hP214 (.inr (by omega))
            have hz221 := hE220.le
            refine st_q (v := .bool true) (x_assign rfl) ?_
            refine st_nil ?_
            refine kn210 _ _ ?_
            refine ret ?_
            refine kr192 _ _ ?_
            refine kr140 _ _ ?_
            refine kr134 _ _ ?_
            refine kr124 _ _ ?_
            refine leaveCT (P := Try.prog) (fn := Try.f28) (t := 2) (u := 3) (T := 31) (b := w0.heap.size) (o := 0) (cs := [.int .i64 ((el es 0).1.1), .int .i64 ((el es 0).1.2)]) (v := .bool true) rfl T.ag31 rfl (hB215.cells 0 [.int .i64 ((el es 0).1.1), .int .i64 ((el es 0).1.2)] (cells_at rfl)) rfl ?_
            have hH222 := HeapR.of_ob (enE_len enT_len) hge hB217 hF219 (m := (es.length - 1)) (by omega) hLL hb1
            exact ⟨rfl, _, _, hE220, hH222, (by first | exact down_done hD (fun j h0 hj he => by omega) | exact down_stop (ah_swo hL) hD (by first | exact down_min_r (ah_swo hL) rfl (by assumption) | exact down_min_l (ah_swo hL) rfl (by first | exact .inr (by omega) | exact .inl (by assumption))) (by assumption)), hP, rfl⟩
          ·
            refine skip ?_
            refine kn191 _ _ ?_
            refine seqK fun Q223 kn224 kr225 ke226 => ?_
            refine regionD1 [3, 8, 13, 16, 20, 23] [0, 1, 2, 3, 4, 5, 6, 7, 8, 9, 10, 11, 12, 13, 14, 15, 16, 17, 18, 19, 20, 21, 22, 23, 24, 26] (.one 0 (.one 1 (.one 2 (.one 3 (.one 4 (.one 5 (.one 6 (.one 7 (.one 8 (.one 9 (.one 10 (.one 11 (.one 12 (.one 13 (.one 14 (.one 15 (.one 16 (.one 17 (.one 18 (.one 19 (.one 20 (.one 21 (.one 22 (.one 23 (.one 24 (.one 25 (.one 26 (.one 27 .done)))))))))))))))))))))))))))) (by kernel_rfl) (by kernel_rfl) ?_
            intro w227 hx228 hs229
            have hB230 := hB201.ext hx228
            have hB231 := hB202.ext hx228
            have hB232 := hB203.ext hx228
            have hF233 := hF204.ext hx228
            have hE234 : Mod (fun k => k = b ∨ Value.ownBlock (.slice (some ⟨b1, 0, none⟩) es.length c1) = some k) w0 w227 := hE205.ext hx228
            have hz235 := hE234.le
            have hs236 := hx228.size
            have hS237 : Ext w227 w227 := Below.refl _ _
            refine d_q (v := .pointer (some ⟨b, 0, none⟩)) rfl rfl (fun _ => x_move rfl) ?_
            refine d_q (v := .pointer (some ⟨b, 0, none⟩)) rfl rfl (fun _ => x_nilCheck rfl) ?_
            refine d_q (v := .pointer (some ⟨b, 1, none⟩)) rfl rfl (fun _ => x_field (o := 0) T.fa57_1 rfl) ?_
            refine d_l (v := .slice ((some ⟨b1, 0, none⟩)) ((es.length - 1)) c1) rfl rfl rfl (fun v239 hw238 => x_load1 T.na55 rfl ((hB230.one 1 rfl).ext hw238)) ?_
            refine d_q (v := .int .i64 ((i : Nat) : Int)) rfl rfl (fun _ => x_move rfl) ?_
            refine d_q (v := .pointer (some ⟨b, 0, none⟩)) rfl rfl (fun _ => x_move rfl) ?_
            refine d_q (v := .pointer (some ⟨b, 0, none⟩)) rfl rfl (fun _ => x_nilCheck rfl) ?_
            refine d_q (v := .pointer (some ⟨b, 1, none⟩)) rfl rfl (fun _ => x_field (o := 0) T.fa57_1 rfl) ?_
            refine d_l (v := .slice ((some ⟨b1, 0, none⟩)) ((es.length - 1)) c1) rfl rfl rfl (fun v241 hw240 => x_load1 T.na55 rfl ((hB230.one 1 rfl).ext hw240)) ?_
            refine d_q (v := .int .i64 (((((2 * i) + 1) + 1) : Nat) : Int)) rfl rfl (fun _ => x_move rfl) ?_
            refine d_q (v := .pointer (some ⟨b, 0, none⟩)) rfl rfl (fun _ => x_move rfl) ?_
            refine d_q (v := .pointer (some ⟨b, 0, none⟩)) rfl rfl (fun _ => x_nilCheck rfl) ?_
            refine d_q (v := .pointer (some ⟨b, 1, none⟩)) rfl rfl (fun _ => x_field (o := 0) T.fa57_1 rfl) ?_
            refine d_l (v := .slice ((some ⟨b1, 0, none⟩)) ((es.length - 1)) c1) rfl rfl rfl (fun v243 hw242 => x_load1 T.na55 rfl ((hB230.one 1 rfl).ext hw242)) ?_
            refine d_q (v := .int .i64 (((((2 * i) + 1) + 1) : Nat) : Int)) rfl rfl (fun _ => x_move rfl) ?_
            refine d_q (v := .pointer (some ⟨b1, 0 + ((((2 * i) + 1) + 1)) * 3, none⟩)) rfl rfl (fun _ => x_index T.sl55 rfl rfl (by omega)) ?_
            refine d_l (v := .agg #[.int .i64 ((el es2 ((((2 * i) + 1) + 1))).1.1), .int .i64 ((el es2 ((((2 * i) + 1) + 1))).1.2), .int .i64 (((el es2 ((((2 * i) + 1) + 1))).2 : Nat) : Int)]) rfl rfl rfl (fun v245 hw244 => x_loadA [.int .i64 ((el es2 ((((2 * i) + 1) + 1))).1.1), .int .i64 ((el es2 ((((2 * i) + 1) + 1))).1.2), .int .i64 (((el es2 ((((2 * i) + 1) + 1))).2 : Nat) : Int)] T.ag78 rfl ((hF233.cells.elem (enE_len enT_len) (i := (((2 * i) + 1) + 1)) (by omega)).ext hw244)) ?_
            refine d_q (v := .pointer (some ⟨b, 0, none⟩)) rfl rfl (fun _ => x_move rfl) ?_
            refine d_q (v := .pointer (some ⟨b, 0, none⟩)) rfl rfl (fun _ => x_nilCheck rfl) ?_
            refine d_q (v := .pointer (some ⟨b, 1, none⟩)) rfl rfl (fun _ => x_field (o := 0) T.fa57_1 rfl) ?_
            refine d_l (v := .slice ((some ⟨b1, 0, none⟩)) ((es.length - 1)) c1) rfl rfl rfl (fun v247 hw246 => x_load1 T.na55 rfl ((hB230.one 1 rfl).ext hw246)) ?_
            refine d_q (v := .int .i64 ((i : Nat) : Int)) rfl rfl (fun _ => x_move rfl) ?_
            refine d_q (v := .pointer (some ⟨b1, 0 + i * 3, none⟩)) rfl rfl (fun _ => x_index T.sl55 rfl rfl (by omega)) ?_
            refine d_l (v := .agg #[.int .i64 ((el es2 i).1.1), .int .i64 ((el es2 i).1.2), .int .i64 (((el es2 i).2 : Nat) : Int)]) rfl rfl rfl (fun v249 hw248 => x_loadA [.int .i64 ((el es2 i).1.1), .int .i64 ((el es2 i).1.2), .int .i64 (((el es2 i).2 : Nat) : Int)] T.ag78 rfl ((hF233.cells.elem (enE_len enT_len) (i := i) (by omega)).ext hw248)) ?_
            refine d_q (v := .pointer (some ⟨b1, 0 + i * 3, none⟩)) rfl rfl (fun _ => x_index T.sl55 rfl rfl (by omega)) ?_
            refine d_e (by decide) (d_s' rfl rfl (e_stO (v := .agg #[.int .i64 ((el es2 ((((2 * i) + 1) + 1))).1.1), .int .i64 ((el es2 ((((2 * i) + 1) + 1))).1.2), .int .i64 (((el es2 ((((2 * i) + 1) + 1))).2 : Nat) : Int)]) (u := (el es2 ((((2 * i) + 1) + 1)))) (enE_len enT_len) T.sz78 rfl rfl rfl hF233 (by first | omega | (rw [List.length_set]; omega)) (by rfl) ?_))
            intro w250 _ hP251 hB252
            have hs253 := hP251.size
            have hB254 := hB230.pt hP251 (by omega)
            have hB255 := hB231.pt hP251 (by omega)
            have hB256 := hB232.pt hP251 (by omega)
            have hE257 : Mod (fun k => k = b ∨ Value.ownBlock (.slice (some ⟨b1, 0, none⟩) es.length c1) = some k) w0 w250 := hE234.pt hP251 (.inl (.inr rfl))
            have hz258 := hE257.le
            refine ⟨need_no (by kernel_rfl), ?_⟩
            refine d_q (v := .pointer (some ⟨b1, 0 + ((((2 * i) + 1) + 1)) * 3, none⟩)) rfl rfl (fun _ => x_index T.sl55 rfl rfl (by omega)) ?_
            refine d_e (by decide) (d_s' rfl rfl (e_stO (v := .agg #[.int .i64 ((el es2 i).1.1), .int .i64 ((el es2 i).1.2), .int .i64 (((el es2 i).2 : Nat) : Int)]) (u := (el es2 i)) (enE_len enT_len) T.sz78 rfl rfl rfl hB252 (by first | omega | (rw [List.length_set]; omega)) (by rfl) ?_))
            intro w259 _ hP260 hB261
            have hs262 := hP260.size
            have hB263 := hB254.pt hP260 (by omega)
            have hB264 := hB255.pt hP260 (by omega)
            have hB265 := hB256.pt hP260 (by omega)
            have hE266 : Mod (fun k => k = b ∨ Value.ownBlock (.slice (some ⟨b1, 0, none⟩) es.length c1) = some k) w0 w259 := hE257.pt hP260 (.inl (.inr rfl))
            have hz267 := hE266.le
            refine ⟨need_no (by kernel_rfl), ?_⟩
            refine d_done ?_
            refine kn224 _ _ ?_
            refine region ?_
            refine st_q (v := .int .i64 (((((2 * i) + 1) + 1) : Nat) : Int)) (x_move rfl) ?_
            refine st_q (v := .int .i64 (((((2 * i) + 1) + 1) : Nat) : Int)) (x_assign rfl) ?_
            refine st_nil ?_
            refine kn139 _ _ ?_
            refine kn133 _ ((((2 * i) + 1) + 1), (swap es2 i ((((2 * i) + 1) + 1)))) _ ⟨rfl, rfl, rfl, rfl, rfl, trivial⟩ ⟨hE266, ?_⟩ ?_
            ·
              try dsimp only
              exact ⟨hB263, hB261, hB264, hB265, by rw [swap_length]; exact hLL, by omega, down_step (ah_swo hL) hD (by omega) (by omega) (by omega) (Decidable.of_not_not (by assumption)) (by first | exact down_min_r (ah_swo hL) rfl (by assumption) | exact down_min_l (ah_swo hL) rfl (by first | exact .inr (by omega) | exact .inl (by assumption))), hP.trans (List.Perm.cons _ (swap_perm (by omega) (by omega)).symm)⟩
            ·
              (try dsimp only); omega
        ·
          refine skip ?_
          refine kn171 _ _ ?_
          refine seqK fun Q268 kn269 kr270 ke271 => ?_
          refine seqK fun Q272 kn273 kr274 ke275 => ?_
          refine region ?_
          refine st_q (v := .pointer (some ⟨b, 0, none⟩)) (x_move rfl) ?_
          refine st_q (v := .int .i64 ((((2 * i) + 1) : Nat) : Int)) (x_move rfl) ?_
          refine st_q (v := .int .i64 ((i : Nat) : Int)) (x_move rfl) ?_
          have hH278 := HeapR.of_ob (enE_len enT_len) hge hB182 hF185 (m := (es.length - 1)) (by omega) hLL hb1
          refine st_c (t_call [.pointer (some ⟨b, 0, none⟩), .int .i64 ((((2 * i) + 1) : Nat) : Int), .int .i64 ((i : Nat) : Int)] T.cf58 rfl rfl) (ahead58 lo fc c hcf hcmp g hg b nx _ es2 (((2 * i) + 1)) i _ hH278 (by omega) (by omega)) ?_
          rintro _ w276 ⟨rfl, hx277⟩
          refine ⟨_, rfl, ?_⟩
          have hB279 := hB182.ext hx277
          have hB280 := hB183.ext hx277
          have hB281 := hB184.ext hx277
          have hF282 := hF185.ext hx277
          have hE283 : Mod (fun k => k = b ∨ Value.ownBlock (.slice (some ⟨b1, 0, none⟩) es.length c1) = some k) w0 w276 := hE186.ext hx277
          have hz284 := hE283.le
          have hs285 := hx277.size
          refine st_q (v := .bool (decide (¬ (ah c (el es2 (((2 * i) + 1))) (el es2 i))))) (x_notP rfl) ?_
          refine st_nil ?_
          refine kn273 _ _ ?_
          refine cnd (p := ¬ (ah c (el es2 (((2 * i) + 1))) (el es2 i))) rfl (fun h286 => ?_) (fun h286 => ?_)
          ·
            refine seqK fun Q287 kn288 kr289 ke290 => ?_
            refine region ?_
            refine st_q (v := .agg #[.int .i64 ((el es 0).1.1), .int .i64 ((el es 0).1.2)]) (x_loadA [.int .i64 ((el es 0).1.1), .int .i64 ((el es 0).1.2)] T.ag31 rfl (hB281.cells 0 [.int .i64 ((el es 0).1.1), .int .i64 ((el es 0).1.2)] (cells_at rfl))) ?_
            refine st_s (e_st (v := .agg #[.int .i64 ((el es 0).1.1), .int .i64 ((el es 0).1.2)]) T.sz31 rfl rfl hB280 (by simp [Value.cells]) (by rfl) ?_)
            intro w291 hP292
            have hB293 : Blk w291.heap w0.heap.size [.int .i64 ((el es 0).1.1), .int .i64 ((el es 0).1.2)] 31 := hP292.new
            have hs294 := hP292.size
            have hB295 := hB279.pt hP292 (by omega)
            have hB296 := hB281.pt hP292 (by omega)
            have hF297 := hF282.pt hP292 (by omega)
            have hE298 : Mod (fun k => k = b ∨ Value.ownBlock (.slice (some ⟨b1, 0, none⟩) es.length c1) = some k) w0 w291 := hE283.pt hP292 (.inr (by omega))
            have hz299 := hE298.le
            refine st_q (v := .bool true) (x_assign rfl) ?_
            refine st_nil ?_
            refine kn288 _ _ ?_
            refine ret ?_
            refine kr270 _ _ ?_
            refine kr140 _ _ ?_
            refine kr134 _ _ ?_
            refine kr124 _ _ ?_
            refine leaveCT (P := Try.prog) (fn := Try.f28) (t := 2) (u := 3) (T := 31) (b := w0.heap.size) (o := 0) (cs := [.int .i64 ((el es 0).1.1), .int .i64 ((el es 0).1.2)]) (v := .bool true) rfl T.ag31 rfl (hB293.cells 0 [.int .i64 ((el es 0).1.1), .int .i64 ((el es 0).1.2)] (cells_at rfl)) rfl ?_
            have hH300 := HeapR.of_ob (enE_len enT_len) hge hB295 hF297 (m := (es.length - 1)) (by omega) hLL hb1
            exact ⟨rfl, _, _, hE298, hH300, (by first | exact down_done hD (fun j h0 hj he => by omega) | exact down_stop (ah_swo hL) hD (by first | exact down_min_r (ah_swo hL) rfl (by assumption) | exact down_min_l (ah_swo hL) rfl (by first | exact .inr (by omega) | exact .inl (by assumption))) (by assumption)), hP, rfl⟩
          ·
            refine skip ?_
            refine kn269 _ _ ?_
            refine seqK fun Q301 kn302 kr303 ke304 => ?_
            refine regionD1 [3, 8, 13, 16, 20, 23] [0, 1, 2, 3, 4, 5, 6, 7, 8, 9, 10, 11, 12, 13, 14, 15, 16, 17, 18, 19, 20, 21, 22, 23, 24, 26] (.one 0 (.one 1 (.one 2 (.one 3 (.one 4 (.one 5 (.one 6 (.one 7 (.one 8 (.one 9 (.one 10 (.one 11 (.one 12 (.one 13 (.one 14 (.one 15 (.one 16 (.one 17 (.one 18 (.one 19 (.one 20 (.one 21 (.one 22 (.one 23 (.one 24 (.one 25 (.one 26 (.one 27 .done)))))))))))))))))))))))))))) (by kernel_rfl) (by kernel_rfl) ?_
            intro w305 hx306 hs307
            have hB308 := hB279.ext hx306
            have hB309 := hB280.ext hx306
            have hB310 := hB281.ext hx306
            have hF311 := hF282.ext hx306
            have hE312 : Mod (fun k => k = b ∨ Value.ownBlock (.slice (some ⟨b1, 0, none⟩) es.length c1) = some k) w0 w305 := hE283.ext hx306
            have hz313 := hE312.le
            have hs314 := hx306.size
            have hS315 : Ext w305 w305 := Below.refl _ _
            refine d_q (v := .pointer (some ⟨b, 0, none⟩)) rfl rfl (fun _ => x_move rfl) ?_
            refine d_q (v := .pointer (some ⟨b, 0, none⟩)) rfl rfl (fun _ => x_nilCheck rfl) ?_
            refine d_q (v := .pointer (some ⟨b, 1, none⟩)) rfl rfl (fun _ => x_field (o := 0) T.fa57_1 rfl) ?_
            refine d_l (v := .slice ((some ⟨b1, 0, none⟩)) ((es.length - 1)) c1) rfl rfl rfl (fun v317 hw316 => x_load1 T.na55 rfl ((hB308.one 1 rfl).ext hw316)) ?_
            refine d_q (v := .int .i64 ((i : Nat) : Int)) rfl rfl (fun _ => x_move rfl) ?_
            refine d_q (v := .pointer (some ⟨b, 0, none⟩)) rfl rfl (fun _ => x_move rfl) ?_
            refine d_q (v := .pointer (some ⟨b, 0, none⟩)) rfl rfl (fun _ => x_nilCheck rfl) ?_
            refine d_q (v := .pointer (some ⟨b, 1, none⟩)) rfl rfl (fun _ => x_field (o := 0) T.fa57_1 rfl) ?_
            refine d_l (v := .slice ((some ⟨b1, 0, none⟩)) ((es.length - 1)) c1) rfl rfl rfl (fun v319 hw318 => x_load1 T.na55 rfl ((hB308.one 1 rfl).ext hw318)) ?_
            refine d_q (v := .int .i64 ((((2 * i) + 1) : Nat) : Int)) rfl rfl (fun _ => x_move rfl) ?_
            refine d_q (v := .pointer (some ⟨b, 0, none⟩)) rfl rfl (fun _ => x_move rfl) ?_
            refine d_q (v := .pointer (some ⟨b, 0, none⟩)) rfl rfl (fun _ => x_nilCheck rfl) ?_
            refine d_q (v := .pointer (some ⟨b, 1, none⟩)) rfl rfl (fun _ => x_field (o := 0) T.fa57_1 rfl) ?_
            refine d_l (v := .slice ((some ⟨b1, 0, none⟩)) ((es.length - 1)) c1) rfl rfl rfl (fun v321 hw320 => x_load1 T.na55 rfl ((hB308.one 1 rfl).ext hw320)) ?_
            refine d_q (v := .int .i64 ((((2 * i) + 1) : Nat) : Int)) rfl rfl (fun _ => x_move rfl) ?_
            refine d_q (v := .pointer (some ⟨b1, 0 + (((2 * i) + 1)) * 3, none⟩)) rfl rfl (fun _ => x_index T.sl55 rfl rfl (by omega)) ?_
            refine d_l (v := .agg #[.int .i64 ((el es2 (((2 * i) + 1))).1.1), .int .i64 ((el es2 (((2 * i) + 1))).1.2), .int .i64 (((el es2 (((2 * i) + 1))).2 : Nat) : Int)]) rfl rfl rfl (fun v323 hw322 => x_loadA [.int .i64 ((el es2 (((2 * i) + 1))).1.1), .int .i64 ((el es2 (((2 * i) + 1))).1.2), .int .i64 (((el es2 (((2 * i) + 1))).2 : Nat) : Int)] T.ag78 rfl ((hF311.cells.elem (enE_len enT_len) (i := ((2 * i) + 1)) (by omega)).ext hw322)) ?_
            refine d_q (v := .pointer (some ⟨b, 0, none⟩)) rfl rfl (fun _ => x_move rfl) ?_
            refine d_q (v := .pointer (some ⟨b, 0, none⟩)) rfl rfl (fun _ => x_nilCheck rfl) ?_
            refine d_q (v := .pointer (some ⟨b, 1, none⟩)) rfl rfl (fun _ => x_field (o := 0) T.fa57_1 rfl) ?_
            refine d_l (v := .slice ((some ⟨b1, 0, none⟩)) ((es.length - 1)) c1) rfl rfl rfl (fun v325 hw324 => x_load1 T.na55 rfl ((hB308.one 1 rfl).ext hw324)) ?_
            refine d_q (v := .int .i64 ((i : Nat) : Int)) rfl rfl (fun _ => x_move rfl) ?_
            refine d_q (v := .pointer (some ⟨b1, 0 + i * 3, none⟩)) rfl rfl (fun _ => x_index T.sl55 rfl rfl (by omega)) ?_
            refine d_l (v := .agg #[.int .i64 ((el es2 i).1.1), .int .i64 ((el es2 i).1.2), .int .i64 (((el es2 i).2 : Nat) : Int)]) rfl rfl rfl (fun v327 hw326 => x_loadA [.int .i64 ((el es2 i).1.1), .int .i64 ((el es2 i).1.2), .int .i64 (((el es2 i).2 : Nat) : Int)] T.ag78 rfl ((hF311.cells.elem (enE_len enT_len) (i := i) (by omega)).ext hw326)) ?_
            refine d_q (v := .pointer (some ⟨b1, 0 + i * 3, none⟩)) rfl rfl (fun _ => x_index T.sl55 rfl rfl (by omega)) ?_
            refine d_e (by decide) (d_s' rfl rfl (e_stO (v := .agg #[.int .i64 ((el es2 (((2 * i) + 1))).1.1), .int .i64 ((el es2 (((2 * i) + 1))).1.2), .int .i64 (((el es2 (((2 * i) + 1))).2 : Nat) : Int)]) (u := (el es2 (((2 * i) + 1)))) (enE_len enT_len) T.sz78 rfl rfl rfl hF311 (by first | omega | (rw [List.length_set]; omega)) (by rfl) ?_))
            intro w328 _ hP329 hB330
            have hs331 := hP329.size
            have hB332 := hB308.pt hP329 (by omega)
            have hB333 := hB309.pt hP329 (by omega)
            have hB334 := hB310.pt hP329 (by omega)
            have hE335 : Mod (fun k => k = b ∨ Value.ownBlock (.slice (some ⟨b1, 0, none⟩) es.length c1) = some k) w0 w328 := hE312.pt hP329 (.inl (.inr rfl))
            have hz336 := hE335.le
            refine ⟨need_no (by kernel_rfl), ?_⟩
            refine d_q (v := .pointer (some ⟨b1, 0 + (((2 * i) + 1)) * 3, none⟩)) rfl rfl (fun _ => x_index T.sl55 rfl rfl (by omega)) ?_
            refine d_e (by decide) (d_s' rfl rfl (e_stO (v := .agg #[.int .i64 ((el es2 i).1.1), .int .i64 ((el es2 i).1.2), .int .i64 (((el es2 i).2 : Nat) : Int)]) (u := (el es2 i)) (enE_len enT_len) T.sz78 rfl rfl rfl hB330 (by first | omega | (rw [List.length_set]; omega)) (by rfl) ?_))
            intro w337 _ hP338 hB339
            have hs340 := hP338.size
            have hB341 := hB332.pt hP338 (by omega)
            have hB342 := hB333.pt hP338 (by omega)
            have hB343 := hB334.pt hP338 (by omega)
            have hE344 : Mod (fun k => k = b ∨ Value.ownBlock (.slice (some ⟨b1, 0, none⟩) es.length c1) = some k) w0 w337 := hE335.pt hP338 (.inl (.inr rfl))
            have hz345 := hE344.le
            refine ⟨need_no (by kernel_rfl), ?_⟩
            refine d_done ?_
            refine kn302 _ _ ?_
            refine region ?_
            refine st_q (v := .int .i64 ((((2 * i) + 1) : Nat) : Int)) (x_move rfl) ?_
            refine st_q (v := .int .i64 ((((2 * i) + 1) : Nat) : Int)) (x_assign rfl) ?_
            refine st_nil ?_
            refine kn139 _ _ ?_
            refine kn133 _ (((2 * i) + 1), (swap es2 i (((2 * i) + 1)))) _ ⟨rfl, rfl, rfl, rfl, rfl, trivial⟩ ⟨hE344, ?_⟩ ?_
            ·
              try dsimp only
              exact ⟨hB341, hB339, hB342, hB343, by rw [swap_length]; exact hLL, by omega, down_step (ah_swo hL) hD (by omega) (by omega) (by omega) (Decidable.of_not_not (by assumption)) (by first | exact down_min_r (ah_swo hL) rfl (by assumption) | exact down_min_l (ah_swo hL) rfl (by first | exact .inr (by omega) | exact .inl (by assumption))), hP.trans (List.Perm.cons _ (swap_perm (by omega) (by omega)).symm)⟩
            ·
              (try dsimp only); omega
      ·
        refine st_gn 4 62 rfl rfl (by decide) rfl ?_
        refine st_gn 4 62 rfl rfl (by decide) rfl ?_
        refine st_gn 4 62 rfl rfl (by decide) rfl ?_
        refine st_gn 4 62 rfl rfl (by decide) rfl ?_
        refine st_gn 4 62 rfl rfl (by decide) rfl ?_
        refine st_q (v := .bool false) (x_pickF rfl rfl) ?_
        refine st_nil ?_
        refine kn175 _ _ ?_
        refine cndF rfl ?_
        refine skip ?_
        refine kn171 _ _ ?_
        refine seqK fun Q346 kn347 kr348 ke349 => ?_
        refine seqK fun Q350 kn351 kr352 ke353 => ?_
        refine region ?_
        refine st_q (v := .pointer (some ⟨b, 0, none⟩)) (x_move rfl) ?_
        refine st_q (v := .int .i64 ((((2 * i) + 1) : Nat) : Int)) (x_move rfl) ?_
        refine st_q (v := .int .i64 ((i : Nat) : Int)) (x_move rfl) ?_
        have hH356 := HeapR.of_ob (enE_len enT_len) hge hB1 hO2 (m := (es.length - 1)) (by omega) hLL hb1
        refine st_c (t_call [.pointer (some ⟨b, 0, none⟩), .int .i64 ((((2 * i) + 1) : Nat) : Int), .int .i64 ((i : Nat) : Int)] T.cf58 rfl rfl) (ahead58 lo fc c hcf hcmp g hg b nx _ es2 (((2 * i) + 1)) i _ hH356 (by omega) (by omega)) ?_
        rintro _ w354 ⟨rfl, hx355⟩
        refine ⟨_, rfl, ?_⟩
        have hB357 := hB1.ext hx355
        have hB358 := hX1.ext hx355
        have hB359 := hX2.ext hx355
        have hF360 := hO2.ext hx355
        have hE361 : Mod (fun k => k = b ∨ Value.ownBlock (.slice (some ⟨b1, 0, none⟩) es.length c1) = some k) w0 w354 := hx130.ext hx355
        have hz362 := hE361.le
        have hs363 := hx355.size
        refine st_q (v := .bool (decide (¬ (ah c (el es2 (((2 * i) + 1))) (el es2 i))))) (x_notP rfl) ?_
        refine st_nil ?_
        refine kn351 _ _ ?_
        refine cnd (p := ¬ (ah c (el es2 (((2 * i) + 1))) (el es2 i))) rfl (fun h364 => ?_) (fun h364 => ?_)
        ·
          refine seqK fun Q365 kn366 kr367 ke368 => ?_
          refine region ?_
          refine st_q (v := .agg #[.int .i64 ((el es 0).1.1), .int .i64 ((el es 0).1.2)]) (x_loadA [.int .i64 ((el es 0).1.1), .int .i64 ((el es 0).1.2)] T.ag31 rfl (hB359.cells 0 [.int .i64 ((el es 0).1.1), .int .i64 ((el es 0).1.2)] (cells_at rfl))) ?_
          refine st_s (e_st (v := .agg #[.int .i64 ((el es 0).1.1), .int .i64 ((el es 0).1.2)]) T.sz31 rfl rfl hB358 (by simp [Value.cells]) (by rfl) ?_)
          intro w369 hP370
          have hB371 : Blk w369.heap w0.heap.size [.int .i64 ((el es 0).1.1), .int .i64 ((el es 0).1.2)] 31 := hP370.new
          have hs372 := hP370.size
          have hB373 := hB357.pt hP370 (by omega)
          have hB374 := hB359.pt hP370 (by omega)
          have hF375 := hF360.pt hP370 (by omega)
          have hE376 : Mod (fun k => k = b ∨ Value.ownBlock (.slice (some ⟨b1, 0, none⟩) es.length c1) = some k) w0 w369 := hE361.pt hP370 (.inr (by omega))
          have hz377 := hE376.le
          refine st_q (v := .bool true) (x_assign rfl) ?_
          refine st_nil ?_
          refine kn366 _ _ ?_
          refine ret ?_
          refine kr348 _ _ ?_
          refine kr140 _ _ ?_
          refine kr134 _ _ ?_
          refine kr124 _ _ ?_
          refine leaveCT (P := Try.prog) (fn := Try.f28) (t := 2) (u := 3) (T := 31) (b := w0.heap.size) (o := 0) (cs := [.int .i64 ((el es 0).1.1), .int .i64 ((el es 0).1.2)]) (v := .bool true) rfl T.ag31 rfl (hB371.cells 0 [.int .i64 ((el es 0).1.1), .int .i64 ((el es 0).1.2)] (cells_at rfl)) rfl ?_
          have hH378 := HeapR.of_ob (enE_len enT_len) hge hB373 hF375 (m := (es.length - 1)) (by omega) hLL hb1
          exact ⟨rfl, _, _, hE376, hH378, (by first | exact down_done hD (fun j h0 hj he => by omega) | exact down_stop (ah_swo hL) hD (by first | exact down_min_r (ah_swo hL) rfl (by assumption) | exact down_min_l (ah_swo hL) rfl (by first | exact .inr (by omega) | exact .inl (by assumption))) (by assumption)), hP, rfl⟩
        ·
          refine skip ?_
          refine kn347 _ _ ?_
          refine seqK fun Q379 kn380 kr381 ke382 => ?_
          refine regionD1 [3, 8, 13, 16, 20, 23] [0, 1, 2, 3, 4, 5, 6, 7, 8, 9, 10, 11, 12, 13, 14, 15, 16, 17, 18, 19, 20, 21, 22, 23, 24, 26] (.one 0 (.one 1 (.one 2 (.one 3 (.one 4 (.one 5 (.one 6 (.one 7 (.one 8 (.one 9 (.one 10 (.one 11 (.one 12 (.one 13 (.one 14 (.one 15 (.one 16 (.one 17 (.one 18 (.one 19 (.one 20 (.one 21 (.one 22 (.one 23 (.one 24 (.one 25 (.one 26 (.one 27 .done)))))))))))))))))))))))))))) (by kernel_rfl) (by kernel_rfl) ?_
          intro w383 hx384 hs385
          have hB386 := hB357.ext hx384
          have hB387 := hB358.ext hx384
          have hB388 := hB359.ext hx384
          have hF389 := hF360.ext hx384
          have hE390 : Mod (fun k => k = b ∨ Value.ownBlock (.slice (some ⟨b1, 0, none⟩) es.length c1) = some k) w0 w383 := hE361.ext hx384
          have hz391 := hE390.le
          have hs392 := hx384.size
          have hS393 : Ext w383 w383 := Below.refl _ _
          refine d_q (v := .pointer (some ⟨b, 0, none⟩)) rfl rfl (fun _ => x_move rfl) ?_
          refine d_q (v := .pointer (some ⟨b, 0, none⟩)) rfl rfl (fun _ => x_nilCheck rfl) ?_
          refine d_q (v := .pointer (some ⟨b, 1, none⟩)) rfl rfl (fun _ => x_field (o := 0) T.fa57_1 rfl) ?_
          refine d_l (v := .slice ((some ⟨b1, 0, none⟩)) ((es.length - 1)) c1) rfl rfl rfl (fun v395 hw394 => x_load1 T.na55 rfl ((hB386.one 1 rfl).ext hw394)) ?_
          refine d_q (v := .int .i64 ((i : Nat) : Int)) rfl rfl (fun _ => x_move rfl) ?_
          refine d_q (v := .pointer (some ⟨b, 0, none⟩)) rfl rfl (fun _ => x_move rfl) ?_
          refine d_q (v := .pointer (some ⟨b, 0, none⟩)) rfl rfl (fun _ => x_nilCheck rfl) ?_
          refine d_q (v := .pointer (some ⟨b, 1, none⟩)) rfl rfl (fun _ => x_field (o := 0) T.fa57_1 rfl) ?_
          refine d_l (v := .slice ((some ⟨b1, 0, none⟩)) ((es.length - 1)) c1) rfl rfl rfl (fun v397 hw396 => x_load1 T.na55 rfl ((hB386.one 1 rfl).ext hw396)) ?_
          refine d_q (v := .int .i64 ((((2 * i) + 1) : Nat) : Int)) rfl rfl (fun _ => x_move rfl) ?_
          refine d_q (v := .pointer (some ⟨b, 0, none⟩)) rfl rfl (fun _ => x_move rfl) ?_
          refine d_q (v := .pointer (some ⟨b, 0, none⟩)) rfl rfl (fun _ => x_nilCheck rfl) ?_
          refine d_q (v := .pointer (some ⟨b, 1, none⟩)) rfl rfl (fun _ => x_field (o := 0) T.fa57_1 rfl) ?_
          refine d_l (v := .slice ((some ⟨b1, 0, none⟩)) ((es.length - 1)) c1) rfl rfl rfl (fun v399 hw398 => x_load1 T.na55 rfl ((hB386.one 1 rfl).ext hw398)) ?_
          refine d_q (v := .int .i64 ((((2 * i) + 1) : Nat) : Int)) rfl rfl (fun _ => x_move rfl) ?_
          refine d_q (v := .pointer (some ⟨b1, 0 + (((2 * i) + 1)) * 3, none⟩)) rfl rfl (fun _ => x_index T.sl55 rfl rfl (by omega)) ?_
          refine d_l (v := .agg #[.int .i64 ((el es2 (((2 * i) + 1))).1.1), .int .i64 ((el es2 (((2 * i) + 1))).1.2), .int .i64 (((el es2 (((2 * i) + 1))).2 : Nat) : Int)]) rfl rfl rfl (fun v401 hw400 => x_loadA [.int .i64 ((el es2 (((2 * i) + 1))).1.1), .int .i64 ((el es2 (((2 * i) + 1))).1.2), .int .i64 (((el es2 (((2 * i) + 1))).2 : Nat) : Int)] T.ag78 rfl ((hF389.cells.elem (enE_len enT_len) (i := ((2 * i) + 1)) (by omega)).ext hw400)) ?_
          refine d_q (v := .pointer (some ⟨b, 0, none⟩)) rfl rfl (fun _ => x_move rfl) ?_
          refine d_q (v := .pointer (some ⟨b, 0, none⟩)) rfl rfl (fun _ => x_nilCheck rfl) ?_
          refine d_q (v := .pointer (some ⟨b, 1, none⟩)) rfl rfl (fun _ => x_field (o := 0) T.fa57_1 rfl) ?_
          refine d_l (v := .slice ((some ⟨b1, 0, none⟩)) ((es.length - 1)) c1) rfl rfl rfl (fun v403 hw402 => x_load1 T.na55 rfl ((hB386.one 1 rfl).ext hw402)) ?_
          refine d_q (v := .int .i64 ((i : Nat) : Int)) rfl rfl (fun _ => x_move rfl) ?_
          refine d_q (v := .pointer (some ⟨b1, 0 + i * 3, none⟩)) rfl rfl (fun _ => x_index T.sl55 rfl rfl (by omega)) ?_
          refine d_l (v := .agg #[.int .i64 ((el es2 i).1.1), .int .i64 ((el es2 i).1.2), .int .i64 (((el es2 i).2 : Nat) : Int)]) rfl rfl rfl (fun v405 hw404 => x_loadA [.int .i64 ((el es2 i).1.1), .int .i64 ((el es2 i).1.2), .int .i64 (((el es2 i).2 : Nat) : Int)] T.ag78 rfl ((hF389.cells.elem (enE_len enT_len) (i := i) (by omega)).ext hw404)) ?_
          refine d_q (v := .pointer (some ⟨b1, 0 + i * 3, none⟩)) rfl rfl (fun _ => x_index T.sl55 rfl rfl (by omega)) ?_
          refine d_e (by decide) (d_s' rfl rfl (e_stO (v := .agg #[.int .i64 ((el es2 (((2 * i) + 1))).1.1), .int .i64 ((el es2 (((2 * i) + 1))).1.2), .int .i64 (((el es2 (((2 * i) + 1))).2 : Nat) : Int)]) (u := (el es2 (((2 * i) + 1)))) (enE_len enT_len) T.sz78 rfl rfl rfl hF389 (by first | omega | (rw [List.length_set]; omega)) (by rfl) ?_))
          intro w406 _ hP407 hB408
          have hs409 := hP407.size
          have hB410 := hB386.pt hP407 (by omega)
          have hB411 := hB387.pt hP407 (by omega)
          have hB412 := hB388.pt hP407 (by omega)
          have hE413 : Mod (fun k => k = b ∨ Value.ownBlock (.slice (some ⟨b1, 0, none⟩) es.length c1) = some k) w0 w406 := hE390.pt hP407 (.inl (.inr rfl))
          have hz414 := hE413.le
          refine ⟨need_no (by kernel_rfl), ?_⟩
          refine d_q (v := .pointer (some ⟨b1, 0 + (((2 * i) + 1)) * 3, none⟩)) rfl rfl (fun _ => x_index T.sl55 rfl rfl (by omega)) ?_
          refine d_e (by decide) (d_s' rfl rfl (e_stO (v := .agg #[.int .i64 ((el es2 i).1.1), .int .i64 ((el es2 i).1.2), .int .i64 (((el es2 i).2 : Nat) : Int)]) (u := (el es2 i)) (enE_len enT_len) T.sz78 rfl rfl rfl hB408 (by first | omega | (rw [List.length_set]; omega)) (by rfl) ?_))
          intro w415 _ hP416 hB417
          have hs418 := hP416.size
          have hB419 := hB410.pt hP416 (by omega)
          have hB420 := hB411.pt hP416 (by omega)
          have hB421 := hB412.pt hP416 (by omega)
          have hE422 : Mod (fun k => k = b ∨ Value.ownBlock (.slice (some ⟨b1, 0, none⟩) es.length c1) = some k) w0 w415 := hE413.pt hP416 (.inl (.inr rfl))
          have hz423 := hE422.le
          refine ⟨need_no (by kernel_rfl), ?_⟩
          refine d_done ?_
          refine kn380 _ _ ?_
          refine region ?_
          refine st_q (v := .int .i64 ((((2 * i) + 1) : Nat) : Int)) (x_move rfl) ?_
          refine st_q (v := .int .i64 ((((2 * i) + 1) : Nat) : Int)) (x_assign rfl) ?_
          refine st_nil ?_
          refine kn139 _ _ ?_
          refine kn133 _ (((2 * i) + 1), (swap es2 i (((2 * i) + 1)))) _ ⟨rfl, rfl, rfl, rfl, rfl, trivial⟩ ⟨hE422, ?_⟩ ?_
          ·
            try dsimp only
            exact ⟨hB419, hB417, hB420, hB421, by rw [swap_length]; exact hLL, by omega, down_step (ah_swo hL) hD (by omega) (by omega) (by omega) (Decidable.of_not_not (by assumption)) (by first | exact down_min_r (ah_swo hL) rfl (by assumption) | exact down_min_l (ah_swo hL) rfl (by first | exact .inr (by omega) | exact .inl (by assumption))), hP.trans (List.Perm.cons _ (swap_perm (by omega) (by omega)).symm)⟩
          ·
            (try dsimp only); omega

set_option maxHeartbeats 4000000 in
theorem pop28_0 (lo b nx : Nat) (g v : Value) (es : List ((Int × Int) × Nat)) (w0 : World) (hH : HeapR w0.heap lo 57 78 3 (enE enT) b g v es nx) (hz : es.length = 0) : Calls Try.prog 28 #[.pointer (some ⟨b, 0, none⟩)] w0 fun e w' => e = .returned (.tuple #[.agg #[.int .i64 ((0 : Nat) : Int), .int .i64 ((0 : Nat) : Int)], .bool false]) ∧ Ext w0 w' := by
  have hE0 : Below w0.heap.size w0 w0 := Below.refl _ _
  have hz0 := hE0.le
  obtain ⟨hge, hB, hO, hne⟩ := hH
  obtain ⟨a, ca, rfl, hca, hca1⟩ := hO.src.form
  have hbl := hB.lt
  have hvl : ∀ k, Value.ownBlock (.slice a es.length ca) = some k → lo ≤ k ∧ k < w0.heap.size := fun k hk => hO.lt hk
  refine enter Try.func28 rfl 104 Try.ntmps28 rfl ?_
  refine seqK fun Q1 kn2 kr3 ke4 => ?_
  refine region ?_
  refine st_e (e_alloc T.zv31 ?_)
  intro w5 hA6
  have hx7 := hA6.ext
  have hs8 := hA6.size
  have hB9 : Blk w5.heap w0.heap.size [.int .i64 ((0 : Nat) : Int), .int .i64 ((0 : Nat) : Int)] 31 := hA6.new
  have hB10 := hB.ext hx7
  have hF11 := hO.ext hx7
  have hE12 : Below w0.heap.size w0 w5 := hx7.e hE0 (Nat.le_refl _)
  have hz13 := hE12.le
  have hs14 := hx7.size
  refine st_q (v := .bool false) (x_assign rfl) ?_
  refine st_nil ?_
  refine kn2 _ _ ?_
  refine seqK fun Q15 kn16 kr17 ke18 => ?_
  refine region ?_
  refine st_q (v := .pointer (some ⟨b, 0, none⟩)) (x_move rfl) ?_
  refine st_c (t_call [.pointer (some ⟨b, 0, none⟩)] T.cf29 rfl rfl) (peek29_0 lo b nx g _ es _ ⟨hge, hB10, hF11, hne⟩ hz) ?_
  rintro _ w19 ⟨rfl, hx20⟩
  refine ⟨_, rfl, ?_⟩
  have hB21 := hB10.ext hx20
  have hB22 := hB9.ext hx20
  have hF23 := hF11.ext hx20
  have hE24 : Below w0.heap.size w0 w19 := hx20.e hE12 (Nat.le_refl _)
  have hz25 := hE24.le
  have hs26 := hx20.size
  refine st_q (v := .tuple #[.agg #[.int .i64 ((0 : Nat) : Int), .int .i64 ((0 : Nat) : Int)], .bool false]) (x_move rfl) ?_
  refine st_q (v := .agg #[.int .i64 ((0 : Nat) : Int), .int .i64 ((0 : Nat) : Int)]) (x_extract rfl rfl) ?_
  refine st_q (v := .bool false) (x_extract rfl rfl) ?_
  refine st_e (e_alloc T.zv31 ?_)
  intro w27 hA28
  have hx29 := hA28.ext
  have hs30 := hA28.size
  have hB31 : Blk w27.heap w19.heap.size [.int .i64 ((0 : Nat) : Int), .int .i64 ((0 : Nat) : Int)] 31 := hA28.new
  have hB32 := hB21.ext hx29
  have hB33 := hB22.ext hx29
  have hF34 := hF23.ext hx29
  have hE35 : Below w0.heap.size w0 w27 := hx29.e hE24 (Nat.le_refl _)
  have hz36 := hE35.le
  have hs37 := hx29.size
  refine st_s (e_st (v := .agg #[.int .i64 ((0 : Nat) : Int), .int .i64 ((0 : Nat) : Int)]) T.sz31 rfl rfl hB31 (by simp [Value.cells]) (by rfl) ?_)
  intro w38 hP39
  have hB40 : Blk w38.heap w19.heap.size [.int .i64 ((0 : Nat) : Int), .int .i64 ((0 : Nat) : Int)] 31 := hP39.new
  have hs41 := hP39.size
  have hB42 := hB32.pt hP39 (by omega)
  have hB43 := hB33.pt hP39 (by omega)
  have hF44 := hF34.pt hP39 (by intro e; have := hvl _ e; omega)
  have hE45 : Below w0.heap.size w0 w38 := hP39.below hE35 (by omega)
  have hz46 := hE45.le
  refine st_q (v := .bool false) (x_assign rfl) ?_
  refine st_nil ?_
  refine kn16 _ _ ?_
  refine seqK fun Q47 kn48 kr49 ke50 => ?_
  refine seqK fun Q51 kn52 kr53 ke54 => ?_
  refine region ?_
  refine st_q (v := .bool false) (x_move rfl) ?_
  refine st_q (v := .bool true) (x_notB (b := false) rfl) ?_
  refine st_nil ?_
  refine kn52 _ _ ?_
  refine cndT rfl ?_
  refine seqK fun Q55 kn56 kr57 ke58 => ?_
  refine region ?_
  refine st_q (v := .agg #[.int .i64 ((0 : Nat) : Int), .int .i64 ((0 : Nat) : Int)]) (x_loadA [.int .i64 ((0 : Nat) : Int), .int .i64 ((0 : Nat) : Int)] T.ag31 rfl (hB40.cells 0 [.int .i64 ((0 : Nat) : Int), .int .i64 ((0 : Nat) : Int)] (cells_at rfl))) ?_
  refine st_s (e_st (v := .agg #[.int .i64 ((0 : Nat) : Int), .int .i64 ((0 : Nat) : Int)]) T.sz31 rfl rfl hB43 (by simp [Value.cells]) (by rfl) ?_)
  intro w59 hP60
  have hB61 : Blk w59.heap w0.heap.size [.int .i64 ((0 : Nat) : Int), .int .i64 ((0 : Nat) : Int)] 31 := hP60.new
  have hs62 := hP60.size
  have hB63 := hB42.pt hP60 (by omega)
  have hB64 := hB40.pt hP60 (by omega)
  have hF65 := hF44.pt hP60 (by intro e; have := hvl _ e; omega)
  have hE66 : Below w0.heap.size w0 w59 := hP60.below hE45 (by omega)
  have hz67 := hE66.le
  refine st_q (v := .bool false) (x_assign rfl) ?_
  refine st_nil ?_
  refine kn56 _ _ ?_
  refine ret ?_
  refine kr49 _ _ ?_
  refine leaveCT (P := Try.prog) (fn := Try.f28) (t := 2) (u := 3) (T := 31) (b := w0.heap.size) (o := 0) (cs := [.int .i64 ((0 : Nat) : Int), .int .i64 ((0 : Nat) : Int)]) (v := .bool false) rfl T.ag31 rfl (hB61.cells 0 [.int .i64 ((0 : Nat) : Int), .int .i64 ((0 : Nat) : Int)] (cells_at rfl)) rfl ?_
  exact ⟨rfl, hE66⟩

set_option maxHeartbeats 4000000 in
theorem new23 (fc : Nat) (g : Value) (hg : Told g fc) (w0 : World)  : Calls Try.prog 23 #[g] w0 fun e w' => ∃ b, e = .returned (.pointer (some ⟨b, 0, none⟩)) ∧ Ext w0 w' ∧ HeapR w'.heap w0.heap.size 57 78 3 (enE enT) b (.func (.func fc) #[] #[]) (.slice none 0 0) (([] : List ((Int × Int) × Nat))) 0 ∧ w0.heap.size ≤ b := by
  have hE0 : Below w0.heap.size w0 w0 := Below.refl _ _
  have hz0 := hE0.le
  refine enter Try.func23 rfl 7 Try.ntmps23 rfl ?_
  refine seqK fun Q1 kn2 kr3 ke4 => ?_
  refine region ?_
  refine st_q (v := .pointer none) (x_assign rfl) ?_
  refine st_nil ?_
  refine kn2 _ _ ?_
  refine seqK fun Q5 kn6 kr7 ke8 => ?_
  refine region ?_
  refine st_q (v := g) (x_move rfl) ?_
  refine st_c (t_call [g] T.cf53 rfl rfl) (hg _) ?_
  rintro _ _ ⟨rfl, rfl⟩
  refine ⟨_, rfl, ?_⟩
  refine st_q (v := .agg #[.func (.func fc) #[] #[], .slice none 0 0, .int .i64 ((0 : Nat) : Int)]) (x_build (fun _ => by kernel_rfl)) ?_
  refine st_e (e_box (v := .agg #[.func (.func fc) #[] #[], .slice none 0 0, .int .i64 ((0 : Nat) : Int)]) rfl ?_)
  intro w9 hA10
  have hx11 := hA10.ext
  have hs12 := hA10.size
  have hB13 : Blk w9.heap w0.heap.size [.func (.func fc) #[] #[], .slice none 0 0, .int .i64 ((0 : Nat) : Int)] 57 := hA10.new
  have hE14 : Below w0.heap.size w0 w9 := hx11.e hE0 (Nat.le_refl _)
  have hz15 := hE14.le
  have hs16 := hx11.size
  refine st_q (v := .pointer (some ⟨w0.heap.size, 0, none⟩)) (x_assign rfl) ?_
  refine st_nil ?_
  refine kn6 _ _ ?_
  refine ret ?_
  refine leave1 (P := Try.prog) (fn := Try.f23) (t := 2) (v := .pointer (some ⟨w0.heap.size, 0, none⟩)) rfl rfl ?_
  exact ⟨_, rfl, hE14, ⟨by omega, hB13, Own.nil _ _ _ _, by simp [Value.ownBlock]⟩, by omega⟩

set_option maxHeartbeats 4000000 in
theorem find19 (fc : Nat) (c : (Int × Int) → (Int × Int) → Int) (hcf : CF Try.prog fc) (hcmp : Cmp fc c) (g : Value) (hg : Told g fc) (xs : List (Int × Int)) (z : Int × Int) (vl : Value) (w0 : World) (hl : Src w0.heap vl xs.length 2 (flat enT xs)) (hn : xs.length ≤ 4611686018427387904) (hmono : ∀ i j, i ≤ j → j < xs.length → c (el xs j) z < 0 → c (el xs i) z < 0) : Calls Try.prog 19 #[vl, .agg (enT z).toArray, g] w0 fun e w' => ∃ p : Nat, e = .returned (.tuple #[.int .i64 ((p : Nat) : Int), .bool (decide (p < xs.length ∧ c (el xs p) z = 0))]) ∧ Ext w0 w' ∧ p ≤ xs.length ∧ (∀ i, i < p → c (el xs i) z < 0) ∧ (∀ i, p ≤ i → i < xs.length → ¬ c (el xs i) z < 0) := by
  have hE0 : Below w0.heap.size w0 w0 := Below.refl _ _
  have hz0 := hE0.le
  obtain ⟨a, ca, rfl, hca, hca1⟩ := hl.form
  refine enter Try.func19 rfl 50 Try.ntmps19 rfl ?_
  refine seqK fun Q1 kn2 kr3 ke4 => ?_
  refine region ?_
  refine st_e (e_box (v := .agg #[.int .i64 z.1, .int .i64 z.2]) rfl ?_)
  intro w5 hA6
  have hx7 := hA6.ext
  have hs8 := hA6.size
  have hB9 : Blk w5.heap w0.heap.size [.int .i64 z.1, .int .i64 z.2] 31 := hA6.new
  have hE10 : Below w0.heap.size w0 w5 := hx7.e hE0 (Nat.le_refl _)
  have hz11 := hE10.le
  have hs12 := hx7.size
  refine st_q (v := .int .i64 ((0 : Nat) : Int)) (x_assign rfl) ?_
  refine st_q (v := .bool false) (x_assign rfl) ?_
  refine st_nil ?_
  refine kn2 _ _ ?_
  refine scopeK (n := 50) (ds := []) (α := Nat × Nat) (fun x => [(0, .slice a xs.length ca), (2, .func (.func fc) #[] #[]), (4, .pointer (some ⟨w0.heap.size, 0, none⟩)), (8, .int .i64 ((x.1 : Nat) : Int)), (9, .int .i64 ((x.2 : Nat) : Int))]) (fun x w13 => Below w0.heap.size w0 w13 ∧ x.1 ≤ x.2 ∧ x.2 ≤ xs.length ∧ (∀ i, i < x.1 → c (el xs i) z < 0) ∧ (∀ i, x.2 ≤ i → i < xs.length → ¬ c (el xs i) z < 0) ∧ Blk w13.heap w0.heap.size [.int .i64 z.1, .int .i64 z.2] 31) (fun x => x.2 - x.1) rfl rfl ?_ ?_
  ·
    intro Z14 Q15 kn16 kr17 ke18
    refine seqK fun Q19 kn20 kr21 ke22 => ?_
    refine region ?_
    refine st_q (v := g) (x_move rfl) ?_
    refine st_c (t_call [g] T.cf53 rfl rfl) (hg _) ?_
    rintro _ _ ⟨rfl, rfl⟩
    refine ⟨_, rfl, ?_⟩
    refine st_q (v := .func (.func fc) #[] #[]) (x_assign rfl) ?_
    refine st_nil ?_
    refine kn20 _ _ ?_
    refine seqK fun Q23 kn24 kr25 ke26 => ?_
    refine region ?_
    refine st_q (v := .slice a xs.length ca) (x_move rfl) ?_
    refine st_q (v := .int .i64 ((xs.length : Nat) : Int)) (x_lenSl rfl Try.underlying29 rfl) ?_
    refine st_q (v := .int .i64 ((0 : Nat) : Int)) (x_assign rfl) ?_
    refine st_q (v := .int .i64 ((xs.length : Nat) : Int)) (x_assign rfl) ?_
    refine st_nil ?_
    refine kn24 _ _ ?_
    refine kn16 _ (0, xs.length) _ ⟨rfl, rfl, rfl, rfl, rfl, trivial⟩ ⟨hE10, ?_⟩
    try dsimp only
    exact ⟨Nat.zero_le _, Nat.le_refl _, fun i h => by omega, fun i h h2 => by omega, hB9⟩
  ·
    rintro τ27 ⟨lo, hi⟩ w28 ⟨hx29, ⟨h1, h2, h3, h4, hX⟩⟩
    try dsimp only at h1 h2 h3 h4 hX
    have hz30 := hx29.le
    intro Q31 kg32 kn33 kr34 ke35
    refine seqG fun Q36 kn37 kr38 ke39 kg40 => ?_
    refine seqG fun Q41 kn42 kr43 ke44 kg45 => ?_
    refine region ?_
    refine st_q (v := .int .i64 ((lo : Nat) : Int)) (x_move rfl) ?_
    refine st_q (v := .int .i64 ((hi : Nat) : Int)) (x_move rfl) ?_
    refine st_q (v := .bool (decide (lo < hi))) (x_lssN rfl rfl) ?_
    refine st_nil ?_
    refine kn42 _ _ ?_
    refine cnd (p := lo < hi) rfl (fun h46 => ?_) (fun h46 => ?_)
    ·
      refine seqG fun Q47 kn48 kr49 ke50 kg51 => ?_
      refine seqG fun Q52 kn53 kr54 ke55 kg56 => ?_
      refine region ?_
      refine st_q (v := .int .i64 ((lo : Nat) : Int)) (x_move rfl) ?_
      refine st_q (v := .int .i64 ((hi : Nat) : Int)) (x_move rfl) ?_
      refine st_q (v := .int .i64 ((lo : Nat) : Int)) (x_move rfl) ?_
      refine st_q (v := .int .i64 (((hi - lo) : Nat) : Int)) (x_subN rfl rfl (by omega) (by omega)) ?_
      refine st_q (v := .int .i64 ((((hi - lo) / 2) : Nat) : Int)) (x_quoN rfl rfl (by omega) (by omega)) ?_
      refine st_q (v := .int .i64 (((lo + ((hi - lo) / 2)) : Nat) : Int)) (x_addN rfl rfl (by omega)) ?_
      refine st_q (v := .int .i64 (((lo + ((hi - lo) / 2)) : Nat) : Int)) (x_assign rfl) ?_
      refine st_nil ?_
      refine kn53 _ _ ?_
      refine seqG fun Q57 kn58 kr59 ke60 kg61 => ?_
      refine regionD1 [4, 5] [0, 1, 2, 3, 4, 5, 7] (.one 0 (.one 1 (.one 2 (.one 3 (.one 4 (.one 5 (.one 6 (.one 7 .done)))))))) (by kernel_rfl) (by kernel_rfl) ?_
      intro w62 hx63 hs64
      have hB65 := hX.ext hx63
      have hE66 : Below w0.heap.size w0 w62 := hx63.e hx29 (Nat.le_refl _)
      have hz67 := hE66.le
      have hs68 := hx63.size
      have hS69 : Ext w62 w62 := Below.refl _ _
      refine d_q (v := .func (.func fc) #[] #[]) rfl rfl (fun _ => x_move rfl) ?_
      refine d_q (v := .slice a xs.length ca) rfl rfl (fun _ => x_move rfl) ?_
      refine d_q (v := .int .i64 (((lo + ((hi - lo) / 2)) : Nat) : Int)) rfl rfl (fun _ => x_move rfl) ?_
      obtain ⟨b70, o71, ha72, hc73⟩ := hl.at (by omega)
      refine d_q (v := .pointer (some ⟨b70, o71 + ((lo + ((hi - lo) / 2))) * 2, none⟩)) rfl rfl (fun _ => x_index' T.sl29 rfl ha72 rfl (by omega)) ?_
      refine d_l (v := .agg #[.int .i64 ((el xs ((lo + ((hi - lo) / 2)))).1), .int .i64 ((el xs ((lo + ((hi - lo) / 2)))).2)]) rfl rfl rfl (fun v75 hw74 => x_loadA [.int .i64 ((el xs ((lo + ((hi - lo) / 2)))).1), .int .i64 ((el xs ((lo + ((hi - lo) / 2)))).2)] T.ag31 rfl (((hc73.below hE66).elem enT_len (i := (lo + ((hi - lo) / 2))) (by omega)).ext hw74)) ?_
      refine d_l (v := .agg #[.int .i64 z.1, .int .i64 z.2]) rfl rfl rfl (fun v77 hw76 => x_loadA [.int .i64 z.1, .int .i64 z.2] T.ag31 rfl ((hB65.cells 0 [.int .i64 z.1, .int .i64 z.2] (cells_at rfl)).ext hw76)) ?_
      refine d_e (by decide) (d_c' rfl rfl (t_call [.agg #[.int .i64 ((el xs ((lo + ((hi - lo) / 2)))).1), .int .i64 ((el xs ((lo + ((hi - lo) / 2)))).2)], .agg #[.int .i64 z.1, .int .i64 z.2]] hcf rfl rfl) (hcmp (el xs ((lo + ((hi - lo) / 2)))) z _) ?_)
      rintro _ w78 ⟨rfl, hx79⟩
      refine ⟨_, rfl, ?_⟩
      have hB80 := hB65.ext hx79
      have hE81 : Below w0.heap.size w0 w78 := hx79.e hE66 (Nat.le_refl _)
      have hz82 := hE81.le
      have hs83 := hx79.size
      have hS84 := hS69.trans (hx79.mono hS69.size)
      refine ⟨fun _ => hS84, ?_⟩
      refine d_q (v := .bool (decide ((c (el xs ((lo + ((hi - lo) / 2)))) z) < 0))) rfl rfl (fun _ => x_lss rfl rfl) ?_
      refine d_done ?_
      refine kn58 _ _ ?_
      refine cnd (p := (c (el xs ((lo + ((hi - lo) / 2)))) z) < 0) rfl (fun h85 => ?_) (fun h85 => ?_)
      ·
        refine region ?_
        refine st_q (v := .int .i64 (((lo + ((hi - lo) / 2)) : Nat) : Int)) (x_move rfl) ?_
        refine st_q (v := .int .i64 ((((lo + ((hi - lo) / 2)) + 1) : Nat) : Int)) (x_addN rfl rfl (by omega)) ?_
        refine st_q (v := .int .i64 ((((lo + ((hi - lo) / 2)) + 1) : Nat) : Int)) (x_assign rfl) ?_
        refine st_nil ?_
        refine kn48 _ _ ?_
        refine gotoS ?_
        refine kg40 _ _ _ ?_
        refine kg32 _ (((lo + ((hi - lo) / 2)) + 1), hi) _ ⟨rfl, rfl, rfl, rfl, rfl, trivial⟩ ⟨hE81, ?_⟩ ?_
        ·
          try dsimp only
          exact ⟨by omega, by omega, fun i h => hmono _ _ (by omega) (by omega) h85, fun i h => h4 i (by omega), hB80⟩
        ·
          (try dsimp only); omega
      ·
        refine region ?_
        refine st_q (v := .int .i64 (((lo + ((hi - lo) / 2)) : Nat) : Int)) (x_move rfl) ?_
        refine st_q (v := .int .i64 (((lo + ((hi - lo) / 2)) : Nat) : Int)) (x_assign rfl) ?_
        refine st_nil ?_
        refine kn48 _ _ ?_
        refine gotoS ?_
        refine kg40 _ _ _ ?_
        refine kg32 _ (lo, (lo + ((hi - lo) / 2))) _ ⟨rfl, rfl, rfl, rfl, rfl, trivial⟩ ⟨hE81, ?_⟩ ?_
        ·
          try dsimp only
          exact ⟨by omega, by omega, fun i h => h3 i (by omega), fun i h h5 hc => h85 (hmono _ _ (by omega) (by omega) hc), hB80⟩
        ·
          (try dsimp only); omega
    ·
      refine skip ?_
      refine kn37 _ _ ?_
      refine seqG fun Q86 kn87 kr88 ke89 kg90 => ?_
      refine regionD1 [10, 11] [0, 1, 2, 3, 4, 5, 6, 7, 8, 9, 10, 11, 13, 14, 15, 16] (.one 0 (.one 1 (.one 2 (.one 3 (.one 4 (.one 5 (.one 6 (.one 7 (.one 8 (.one 9 (.one 10 (.one 11 (.one 12 (.one 13 (.one 14 (.one 15 (.one 16 .done))))))))))))))))) (by kernel_rfl) (by kernel_rfl) ?_
      intro w91 hx92 hs93
      have hB94 := hX.ext hx92
      have hE95 : Below w0.heap.size w0 w91 := hx92.e hx29 (Nat.le_refl _)
      have hz96 := hE95.le
      have hs97 := hx92.size
      have hS98 : Ext w91 w91 := Below.refl _ _
      refine d_q (v := .int .i64 ((lo : Nat) : Int)) rfl rfl (fun _ => x_move rfl) ?_
      refine d_q (v := .int .i64 ((lo : Nat) : Int)) rfl rfl (fun _ => x_move rfl) ?_
      refine d_q (v := .slice a xs.length ca) rfl rfl (fun _ => x_move rfl) ?_
      refine d_q (v := .int .i64 ((xs.length : Nat) : Int)) rfl rfl (fun _ => x_lenSl rfl Try.underlying29 rfl) ?_
      refine d_q (v := .bool (decide (lo < xs.length))) rfl rfl (fun _ => x_lssN rfl rfl) ?_
      refine d_if rfl rfl (p := lo < xs.length) (fun _ => x_move rfl) (fun h99 => ?_) (fun h99 => ?_)
      ·
        refine d_gq (v := .func (.func fc) #[] #[]) (j := 5) (t := 40) rfl rfl rfl rfl (by decide) (fun _ => x_move rfl) ?_
        refine d_gq (v := .slice a xs.length ca) (j := 5) (t := 40) rfl rfl rfl rfl (by decide) (fun _ => x_move rfl) ?_
        refine d_gq (v := .int .i64 ((lo : Nat) : Int)) (j := 5) (t := 40) rfl rfl rfl rfl (by decide) (fun _ => x_move rfl) ?_
        obtain ⟨b100, o101, ha102, hc103⟩ := hl.at (by omega)
        refine d_gq (v := .pointer (some ⟨b100, o101 + lo * 2, none⟩)) (j := 5) (t := 40) rfl rfl rfl rfl (by decide) (fun _ => x_index' T.sl29 rfl ha102 rfl (by omega)) ?_
        refine d_gl (v := .agg #[.int .i64 ((el xs lo).1), .int .i64 ((el xs lo).2)]) (j := 5) (t := 40) rfl rfl rfl rfl rfl (by decide) (fun v105 hw104 => x_loadA [.int .i64 ((el xs lo).1), .int .i64 ((el xs lo).2)] T.ag31 rfl (((hc103.below hE95).elem enT_len (i := lo) (by omega)).ext hw104)) ?_
        refine d_gl (v := .agg #[.int .i64 z.1, .int .i64 z.2]) (j := 5) (t := 40) rfl rfl rfl rfl rfl (by decide) (fun v107 hw106 => x_loadA [.int .i64 z.1, .int .i64 z.2] T.ag31 rfl ((hB94.cells 0 [.int .i64 z.1, .int .i64 z.2] (cells_at rfl)).ext hw106)) ?_
        refine d_e (by decide) (d_c' rfl (wanted_true (j := 5) (t := 40) rfl rfl (by decide)) (t_call [.agg #[.int .i64 ((el xs lo).1), .int .i64 ((el xs lo).2)], .agg #[.int .i64 z.1, .int .i64 z.2]] hcf rfl rfl) (hcmp (el xs lo) z _) ?_)
        rintro _ w108 ⟨rfl, hx109⟩
        refine ⟨_, rfl, ?_⟩
        have hB110 := hB94.ext hx109
        have hE111 : Below w0.heap.size w0 w108 := hx109.e hE95 (Nat.le_refl _)
        have hz112 := hE111.le
        have hs113 := hx109.size
        have hS114 := hS98.trans (hx109.mono hS98.size)
        refine ⟨fun _ => hS114, ?_⟩
        refine d_gq (v := .bool (decide ((c (el xs lo) z) = 0))) (j := 5) (t := 40) rfl rfl rfl rfl (by decide) (fun _ => x_eql rfl rfl) ?_
        refine d_q (v := .bool (decide ((c (el xs lo) z) = 0))) rfl rfl (fun _ => x_pickT rfl rfl) ?_
        refine d_q (v := .int .i64 ((lo : Nat) : Int)) rfl rfl (fun _ => x_assign rfl) ?_
        refine d_q (v := .bool (decide ((c (el xs lo) z) = 0))) rfl rfl (fun _ => x_assign rfl) ?_
        refine d_done ?_
        refine kn87 _ _ ?_
        refine ret ?_
        refine kr34 _ _ ?_
        refine leave2 (P := Try.prog) (fn := Try.f19) (t := 6) (u := 7) (v := .int .i64 ((lo : Nat) : Int)) (v' := .bool (decide ((c (el xs lo) z) = 0))) rfl rfl rfl ?_
        obtain rfl : lo = hi := by omega
        exact ⟨_, by rw [fd_n (p := lo) (n := xs.length) (by assumption)], hE111, h2, h3, h4⟩
      ·
        refine d_gn (j := 5) (t := 40) rfl rfl rfl rfl (by decide) rfl ?_
        refine d_gn (j := 5) (t := 40) rfl rfl rfl rfl (by decide) rfl ?_
        refine d_gn (j := 5) (t := 40) rfl rfl rfl rfl (by decide) rfl ?_
        refine d_gn (j := 5) (t := 40) rfl rfl rfl rfl (by decide) rfl ?_
        refine d_gn (j := 5) (t := 40) rfl rfl rfl rfl (by decide) rfl ?_
        refine d_gn (j := 5) (t := 40) rfl rfl rfl rfl (by decide) rfl ?_
        refine d_e (by decide) (wpE_skip (j := 5) (t := 40) rfl rfl rfl (by decide) rfl (fun _ => hS98) ?_)
        refine d_gn (j := 5) (t := 40) rfl rfl rfl rfl (by decide) rfl ?_
        refine d_q (v := .bool false) rfl rfl (fun _ => x_pickF rfl rfl) ?_
        refine d_q (v := .int .i64 ((lo : Nat) : Int)) rfl rfl (fun _ => x_assign rfl) ?_
        refine d_q (v := .bool false) rfl rfl (fun _ => x_assign rfl) ?_
        refine d_done ?_
        refine kn87 _ _ ?_
        refine ret ?_
        refine kr34 _ _ ?_
        refine leave2 (P := Try.prog) (fn := Try.f19) (t := 6) (u := 7) (v := .int .i64 ((lo : Nat) : Int)) (v' := .bool false) rfl rfl rfl ?_
        obtain rfl : lo = hi := by omega
        exact ⟨_, by rw [fd_f (p := lo) (n := xs.length) (c := c (el xs lo) z) (by assumption)], hE95, h2, h3, h4⟩

end Go.Proofs.Ytgfolockecjlnaa
