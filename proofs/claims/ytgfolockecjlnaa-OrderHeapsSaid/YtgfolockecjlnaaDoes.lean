import Derived.Test.YtgfolockecjlnaaRefH
namespace Go.Proofs.Ytgfolockecjlnaa
open Go.RowKit Go.Eng Go.OrdPure Go.HeapPure
theorem T.fa48_0 : FA Try.prog 48 0 0 := fun _ _ => by kernel_rfl
theorem T.cf28 : CF Try.prog 28 := fun _ _ => by kernel_rfl
theorem T.cf55 : CF Try.prog 55 := fun _ _ => by kernel_rfl
theorem T.cf56 : CF Try.prog 56 := fun _ _ => by kernel_rfl
theorem T.fa48_2 : FA Try.prog 48 2 2 := fun _ _ => by kernel_rfl
theorem T.cf26 : CF Try.prog 26 := fun _ _ => by kernel_rfl
theorem T.cf57 : CF Try.prog 57 := fun _ _ => by kernel_rfl
theorem T.cf25 : CF Try.prog 25 := fun _ _ => by kernel_rfl

set_option maxHeartbeats 4000000 in
theorem push26nil (z : Int × Int) (w0 : World)  : Calls Try.prog 26 #[.pointer none, .agg (enT z).toArray] w0 fun e w' => e = .returned (.tuple #[]) ∧ Ext w0 w' := by
  have hE0 : Below w0.heap.size w0 w0 := Below.refl _ _
  have hz0 := hE0.le
  refine enter Try.func26 rfl 78 Try.ntmps26 rfl ?_
  refine seqK fun Q1 kn2 kr3 ke4 => ?_
  refine region ?_
  refine st_e (e_box (v := .agg #[.int .i64 z.1, .int .i64 z.2]) rfl ?_)
  intro w5 hA6
  have hx7 := hA6.ext
  have hs8 := hA6.size
  have hB9 : Blk w5.heap w0.heap.size [.int .i64 z.1, .int .i64 z.2] 31 := hA6.new
  have hE10 : Below w0.heap.size w0 w5 := hx7.e hE0 (Nat.le_refl _)
  have hz11 := hE10.le
  have hs12 := hx7.size
  refine st_nil ?_
  refine kn2 _ _ ?_
  refine seqK fun Q13 kn14 kr15 ke16 => ?_
  refine seqK fun Q17 kn18 kr19 ke20 => ?_
  refine region ?_
  refine st_q (v := .pointer none) (x_move rfl) ?_
  refine st_q (v := .bool true) (x_eqlPnil (p := none) Try.underlying40 rfl rfl) ?_
  refine st_nil ?_
  refine kn18 _ _ ?_
  refine cndT rfl ?_
  refine ret ?_
  refine kr15 _ _ ?_
  refine leave0 (P := Try.prog) (fn := Try.f26) rfl ?_
  exact ⟨rfl, hE10⟩

set_option maxHeartbeats 4000000 in
theorem peek29nil  (w0 : World)  : Calls Try.prog 29 #[.pointer none] w0 fun e w' => e = .returned (.tuple #[.agg #[.int .i64 ((0 : Nat) : Int), .int .i64 ((0 : Nat) : Int)], .bool false]) ∧ Ext w0 w' := by
  have hE0 : Below w0.heap.size w0 w0 := Below.refl _ _
  have hz0 := hE0.le
  refine enter Try.func29 rfl 23 Try.ntmps29 rfl ?_
  refine seqK fun Q1 kn2 kr3 ke4 => ?_
  refine region ?_
  refine st_e (e_alloc T.zv31 ?_)
  intro w5 hA6
  have hx7 := hA6.ext
  have hs8 := hA6.size
  have hB9 : Blk w5.heap w0.heap.size [.int .i64 ((0 : Nat) : Int), .int .i64 ((0 : Nat) : Int)] 31 := hA6.new
  have hE10 : Below w0.heap.size w0 w5 := hx7.e hE0 (Nat.le_refl _)
  have hz11 := hE10.le
  have hs12 := hx7.size
  refine st_q (v := .bool false) (x_assign rfl) ?_
  refine st_nil ?_
  refine kn2 _ _ ?_
  refine seqK fun Q13 kn14 kr15 ke16 => ?_
  refine seqK fun Q17 kn18 kr19 ke20 => ?_
  refine region ?_
  refine st_q (v := .pointer none) (x_move rfl) ?_
  refine st_q (v := .bool true) (x_eqlPnil (p := none) Try.underlying40 rfl rfl) ?_
  refine st_q (v := .bool true) (x_move rfl) ?_
  refine st_gn 2 7 rfl rfl (by decide) rfl ?_
  refine st_gn 2 7 rfl rfl (by decide) rfl ?_
  refine st_gn 2 7 rfl rfl (by decide) rfl ?_
  refine st_gn 2 7 rfl rfl (by decide) rfl ?_
  refine st_gn 2 7 rfl rfl (by decide) rfl ?_
  refine st_gn 2 7 rfl rfl (by decide) rfl ?_
  refine st_q (v := .bool true) (x_pickT rfl rfl) ?_
  refine st_nil ?_
  refine kn18 _ _ ?_
  refine cndT rfl ?_
  refine seqK fun Q21 kn22 kr23 ke24 => ?_
  refine region ?_
  refine st_e (e_alloc T.zv31 ?_)
  intro w25 hA26
  have hx27 := hA26.ext
  have hs28 := hA26.size
  have hB29 : Blk w25.heap w5.heap.size [.int .i64 ((0 : Nat) : Int), .int .i64 ((0 : Nat) : Int)] 31 := hA26.new
  have hB30 := hB9.ext hx27
  have hE31 : Below w0.heap.size w0 w25 := hx27.e hE10 (Nat.le_refl _)
  have hz32 := hE31.le
  have hs33 := hx27.size
  refine st_nil ?_
  refine kn22 _ _ ?_
  refine seqK fun Q34 kn35 kr36 ke37 => ?_
  refine region ?_
  refine st_q (v := .agg #[.int .i64 ((0 : Nat) : Int), .int .i64 ((0 : Nat) : Int)]) (x_loadA [.int .i64 ((0 : Nat) : Int), .int .i64 ((0 : Nat) : Int)] T.ag31 rfl (hB29.cells 0 [.int .i64 ((0 : Nat) : Int), .int .i64 ((0 : Nat) : Int)] (cells_at rfl))) ?_
  refine st_s (e_st (v := .agg #[.int .i64 ((0 : Nat) : Int), .int .i64 ((0 : Nat) : Int)]) T.sz31 rfl rfl hB30 (by simp [Value.cells]) (by rfl) ?_)
  intro w38 hP39
  have hB40 : Blk w38.heap w0.heap.size [.int .i64 ((0 : Nat) : Int), .int .i64 ((0 : Nat) : Int)] 31 := hP39.new
  have hs41 := hP39.size
  have hB42 := hB29.pt hP39 (by omega)
  have hE43 : Below w0.heap.size w0 w38 := hP39.below hE31 (by omega)
  have hz44 := hE43.le
  refine st_q (v := .bool false) (x_assign rfl) ?_
  refine st_nil ?_
  refine kn35 _ _ ?_
  refine ret ?_
  refine kr15 _ _ ?_
  refine leaveCT (P := Try.prog) (fn := Try.f29) (t := 2) (u := 3) (T := 31) (b := w0.heap.size) (o := 0) (cs := [.int .i64 ((0 : Nat) : Int), .int .i64 ((0 : Nat) : Int)]) (v := .bool false) rfl T.ag31 rfl (hB40.cells 0 [.int .i64 ((0 : Nat) : Int), .int .i64 ((0 : Nat) : Int)] (cells_at rfl)) rfl ?_
  exact ⟨rfl, hE43⟩

set_option maxHeartbeats 4000000 in
theorem pop28nil  (w0 : World)  : Calls Try.prog 28 #[.pointer none] w0 fun e w' => e = .returned (.tuple #[.agg #[.int .i64 ((0 : Nat) : Int), .int .i64 ((0 : Nat) : Int)], .bool false]) ∧ Ext w0 w' := by
  have hE0 : Below w0.heap.size w0 w0 := Below.refl _ _
  have hz0 := hE0.le
  refine enter Try.func28 rfl 104 Try.ntmps28 rfl ?_
  refine seqK fun Q1 kn2 kr3 ke4 => ?_
  refine region ?_
  refine st_e (e_alloc T.zv31 ?_)
  intro w5 hA6
  have hx7 := hA6.ext
  have hs8 := hA6.size
  have hB9 : Blk w5.heap w0.heap.size [.int .i64 ((0 : Nat) : Int), .int .i64 ((0 : Nat) : Int)] 31 := hA6.new
  have hE10 : Below w0.heap.size w0 w5 := hx7.e hE0 (Nat.le_refl _)
  have hz11 := hE10.le
  have hs12 := hx7.size
  refine st_q (v := .bool false) (x_assign rfl) ?_
  refine st_nil ?_
  refine kn2 _ _ ?_
  refine seqK fun Q13 kn14 kr15 ke16 => ?_
  refine region ?_
  refine st_q (v := .pointer none) (x_move rfl) ?_
  refine st_c (t_call [.pointer none] T.cf29 rfl rfl) (peek29nil _) ?_
  rintro _ w17 ⟨rfl, hx18⟩
  refine ⟨_, rfl, ?_⟩
  have hB19 := hB9.ext hx18
  have hE20 : Below w0.heap.size w0 w17 := hx18.e hE10 (Nat.le_refl _)
  have hz21 := hE20.le
  have hs22 := hx18.size
  refine st_q (v := .tuple #[.agg #[.int .i64 ((0 : Nat) : Int), .int .i64 ((0 : Nat) : Int)], .bool false]) (x_move rfl) ?_
  refine st_q (v := .agg #[.int .i64 ((0 : Nat) : Int), .int .i64 ((0 : Nat) : Int)]) (x_extract rfl rfl) ?_
  refine st_q (v := .bool false) (x_extract rfl rfl) ?_
  refine st_e (e_alloc T.zv31 ?_)
  intro w23 hA24
  have hx25 := hA24.ext
  have hs26 := hA24.size
  have hB27 : Blk w23.heap w17.heap.size [.int .i64 ((0 : Nat) : Int), .int .i64 ((0 : Nat) : Int)] 31 := hA24.new
  have hB28 := hB19.ext hx25
  have hE29 : Below w0.heap.size w0 w23 := hx25.e hE20 (Nat.le_refl _)
  have hz30 := hE29.le
  have hs31 := hx25.size
  refine st_s (e_st (v := .agg #[.int .i64 ((0 : Nat) : Int), .int .i64 ((0 : Nat) : Int)]) T.sz31 rfl rfl hB27 (by simp [Value.cells]) (by rfl) ?_)
  intro w32 hP33
  have hB34 : Blk w32.heap w17.heap.size [.int .i64 ((0 : Nat) : Int), .int .i64 ((0 : Nat) : Int)] 31 := hP33.new
  have hs35 := hP33.size
  have hB36 := hB28.pt hP33 (by omega)
  have hE37 : Below w0.heap.size w0 w32 := hP33.below hE29 (by omega)
  have hz38 := hE37.le
  refine st_q (v := .bool false) (x_assign rfl) ?_
  refine st_nil ?_
  refine kn14 _ _ ?_
  refine seqK fun Q39 kn40 kr41 ke42 => ?_
  refine seqK fun Q43 kn44 kr45 ke46 => ?_
  refine region ?_
  refine st_q (v := .bool false) (x_move rfl) ?_
  refine st_q (v := .bool true) (x_notB (b := false) rfl) ?_
  refine st_nil ?_
  refine kn44 _ _ ?_
  refine cndT rfl ?_
  refine seqK fun Q47 kn48 kr49 ke50 => ?_
  refine region ?_
  refine st_q (v := .agg #[.int .i64 ((0 : Nat) : Int), .int .i64 ((0 : Nat) : Int)]) (x_loadA [.int .i64 ((0 : Nat) : Int), .int .i64 ((0 : Nat) : Int)] T.ag31 rfl (hB34.cells 0 [.int .i64 ((0 : Nat) : Int), .int .i64 ((0 : Nat) : Int)] (cells_at rfl))) ?_
  refine st_s (e_st (v := .agg #[.int .i64 ((0 : Nat) : Int), .int .i64 ((0 : Nat) : Int)]) T.sz31 rfl rfl hB36 (by simp [Value.cells]) (by rfl) ?_)
  intro w51 hP52
  have hB53 : Blk w51.heap w0.heap.size [.int .i64 ((0 : Nat) : Int), .int .i64 ((0 : Nat) : Int)] 31 := hP52.new
  have hs54 := hP52.size
  have hB55 := hB34.pt hP52 (by omega)
  have hE56 : Below w0.heap.size w0 w51 := hP52.below hE37 (by omega)
  have hz57 := hE56.le
  refine st_q (v := .bool false) (x_assign rfl) ?_
  refine st_nil ?_
  refine kn48 _ _ ?_
  refine ret ?_
  refine kr41 _ _ ?_
  refine leaveCT (P := Try.prog) (fn := Try.f28) (t := 2) (u := 3) (T := 31) (b := w0.heap.size) (o := 0) (cs := [.int .i64 ((0 : Nat) : Int), .int .i64 ((0 : Nat) : Int)]) (v := .bool false) rfl T.ag31 rfl (hB53.cells 0 [.int .i64 ((0 : Nat) : Int), .int .i64 ((0 : Nat) : Int)] (cells_at rfl)) rfl ?_
  exact ⟨rfl, hE56⟩

set_option maxHeartbeats 4000000 in
theorem len25nil  (w0 : World)  : Calls Try.prog 25 #[.pointer none] w0 fun e w' => e = .returned (.int .i64 ((0 : Nat) : Int)) ∧ Ext w0 w' := by
  have hE0 : Below w0.heap.size w0 w0 := Below.refl _ _
  have hz0 := hE0.le
  refine enter Try.func25 rfl 10 Try.ntmps25 rfl ?_
  refine seqK fun Q1 kn2 kr3 ke4 => ?_
  refine region ?_
  refine st_q (v := .int .i64 ((0 : Nat) : Int)) (x_assign rfl) ?_
  refine st_nil ?_
  refine kn2 _ _ ?_
  refine seqK fun Q5 kn6 kr7 ke8 => ?_
  refine seqK fun Q9 kn10 kr11 ke12 => ?_
  refine region ?_
  refine st_q (v := .pointer none) (x_move rfl) ?_
  refine st_q (v := .bool true) (x_eqlPnil (p := none) Try.underlying40 rfl rfl) ?_
  refine st_nil ?_
  refine kn10 _ _ ?_
  refine cndT rfl ?_
  refine seqK fun Q13 kn14 kr15 ke16 => ?_
  refine region ?_
  refine st_q (v := .int .i64 ((0 : Nat) : Int)) (x_assign rfl) ?_
  refine st_nil ?_
  refine kn14 _ _ ?_
  refine ret ?_
  refine kr7 _ _ ?_
  refine leave1 (P := Try.prog) (fn := Try.f25) (t := 2) (v := .int .i64 ((0 : Nat) : Int)) rfl rfl ?_
  exact ⟨rfl, hE0⟩

set_option maxHeartbeats 4000000 in
theorem does24_0 (lo hb rb : Nat) (v : Value) (es : List ((Int × Int) × Nat)) (nx : Nat) (au : Option Addr) (cu : Nat) (L : List (Int × Int)) (k0 n0 : Int) (z : Int × Int) (w0 : World) (hH : HeapR w0.heap lo 57 78 3 (enE enT) hb (.func (.func 20) #[] #[]) v es nx) (hhp : HP (ah byc) es) (hrlo : lo ≤ rb) (hB : Blk w0.heap rb [.slice au L.length cu] 45) (hO : Own w0.heap lo 31 2 (.slice au L.length cu) L.length (flat enT L)) (hmt : Mt es L nx) (hz : L.length = 0) (hlen : L.length ≤ 4398046511000) (hnx : nx ≤ 4611686018427387904) (hlo : lo ≤ w0.heap.size) : Calls Try.prog 24 #[.pointer (some ⟨hb, 0, none⟩), .pointer (some ⟨rb, 0, none⟩), .agg #[.int .i64 k0, .int .i64 n0, .int .i64 z.1, .int .i64 z.2]] w0 fun e w' => e = .returned (.bool true) ∧ ∃ X', PairR w'.heap lo hb rb X' ∧ Mod (foot hb rb (PS.mk v es nx (.slice au L.length cu) L)) w0 w' ∧ (∀ k, foot hb rb X' k → foot hb rb (PS.mk v es nx (.slice au L.length cu) L) k ∨ w0.heap.size ≤ k) ∧ X'.L.length ≤ L.length + 1 ∧ X'.nx ≤ nx + 1 ∧ (k0 = 4 → X'.L.length = L.length - 1 ∧ X'.nx = nx) := by
  have hE0 : Mod (foot hb rb (PS.mk v es nx (.slice au L.length cu) L)) w0 w0 := Mod.refl _ _
  have hz0 := hE0.le
  have hel := hmt.len
  have hbl := hH.blk.lt
  have hrl := hB.lt
  refine enter Try.func24 rfl 84 Try.ntmps24 rfl ?_
  refine seqK fun Q1 kn2 kr3 ke4 => ?_
  refine region ?_
  refine st_e (e_box (v := .agg #[.int .i64 k0, .int .i64 n0, .int .i64 z.1, .int .i64 z.2]) rfl ?_)
  intro w5 hA6
  have hx7 := hA6.ext
  have hs8 := hA6.size
  have hB9 : Blk w5.heap w0.heap.size [.int .i64 k0, .int .i64 n0, .int .i64 z.1, .int .i64 z.2] 48 := hA6.new
  have hB10 := hB.ext hx7
  have hF11 := hO.ext hx7
  have hF12 := hH.ext hx7
  have hE13 : Mod (foot hb rb (PS.mk v es nx (.slice au L.length cu) L)) w0 w5 := hE0.ext hx7
  have hz14 := hE13.le
  have hs15 := hx7.size
  refine st_q (v := .bool false) (x_assign rfl) ?_
  refine st_nil ?_
  refine kn2 _ _ ?_
  refine seqK fun Q16 kn17 kr18 ke19 => ?_
  refine blockK fun Q20 kn21 kr22 kx23 kb24 => ?_
  refine seqK fun Q25 kn26 kr27 ke28 => ?_
  refine region ?_
  refine st_q (v := .pointer (some ⟨w0.heap.size, 0, none⟩)) (x_field (o := 0) T.fa48_0 rfl) ?_
  refine st_q (v := .int .i64 k0) (x_load1 T.na3 rfl (hB9.one 0 rfl)) ?_
  refine st_q (v := .bool (decide (k0 = 4))) (x_eql rfl rfl) ?_
  refine st_q (v := .bool (decide (k0 = 4))) (x_assign rfl) ?_
  refine st_nil ?_
  refine kn26 _ _ ?_
  refine cnd (p := k0 = 4) rfl (fun h29 => ?_) (fun h29 => ?_)
  ·
    refine seqK fun Q30 kn31 kr32 ke33 => ?_
    refine region ?_
    refine st_q (v := .pointer (some ⟨hb, 0, none⟩)) (x_move rfl) ?_
    refine st_c (t_call [.pointer (some ⟨hb, 0, none⟩)] T.cf28 rfl rfl) (pop28_0 lo hb nx _ v es _ hF12 (by omega)) ?_
    rintro _ w34 ⟨rfl, hx35⟩
    refine ⟨_, rfl, ?_⟩
    have hB36 := hB10.ext hx35
    have hB37 := hB9.ext hx35
    have hF38 := hF11.ext hx35
    have hF39 := hF12.ext hx35
    have hE40 : Mod (foot hb rb (PS.mk v es nx (.slice au L.length cu) L)) w0 w34 := hE13.ext hx35
    have hz41 := hE40.le
    have hs42 := hx35.size
    refine st_q (v := .tuple #[.agg #[.int .i64 ((0 : Nat) : Int), .int .i64 ((0 : Nat) : Int)], .bool false]) (x_move rfl) ?_
    refine st_q (v := .agg #[.int .i64 ((0 : Nat) : Int), .int .i64 ((0 : Nat) : Int)]) (x_extract rfl rfl) ?_
    refine st_q (v := .bool false) (x_extract rfl rfl) ?_
    refine st_e (e_alloc T.zv31 ?_)
    intro w43 hA44
    have hx45 := hA44.ext
    have hs46 := hA44.size
    have hB47 : Blk w43.heap w34.heap.size [.int .i64 ((0 : Nat) : Int), .int .i64 ((0 : Nat) : Int)] 31 := hA44.new
    have hB48 := hB36.ext hx45
    have hB49 := hB37.ext hx45
    have hF50 := hF38.ext hx45
    have hF51 := hF39.ext hx45
    have hE52 : Mod (foot hb rb (PS.mk v es nx (.slice au L.length cu) L)) w0 w43 := hE40.ext hx45
    have hz53 := hE52.le
    have hs54 := hx45.size
    refine st_s (e_st (v := .agg #[.int .i64 ((0 : Nat) : Int), .int .i64 ((0 : Nat) : Int)]) T.sz31 rfl rfl hB47 (by simp [Value.cells]) (by rfl) ?_)
    intro w55 hP56
    have hB57 : Blk w55.heap w34.heap.size [.int .i64 ((0 : Nat) : Int), .int .i64 ((0 : Nat) : Int)] 31 := hP56.new
    have hs58 := hP56.size
    have hB59 := hB48.pt hP56 (by omega)
    have hB60 := hB49.pt hP56 (by omega)
    have hF61 := hF50.pt hP56 (by first | exact hB47.neO hF50 (by decide) | (intro e; have := (hO.lt e).2; omega))
    have hF62 := HeapR.mod hF51 ((Mod.refl (fun k => k = w34.heap.size) _).pt hP56 (.inl rfl)) (fun h => hB47.neB hF51.blk (by decide) h.symm) (fun k e h => hB47.neO hF51.own (by decide) (h ▸ e))
    have hE63 : Mod (foot hb rb (PS.mk v es nx (.slice au L.length cu) L)) w0 w55 := hE52.pt hP56 (.inr (by omega))
    have hz64 := hE63.le
    refine st_q (v := .bool false) (x_assign rfl) ?_
    refine st_nil ?_
    refine kn31 _ _ ?_
    refine seqK fun Q65 kn66 kr67 ke68 => ?_
    refine region ?_
    refine st_q (v := .pointer (some ⟨rb, 0, none⟩)) (x_move rfl) ?_
    refine st_c (t_call [.pointer (some ⟨rb, 0, none⟩)] T.cf55 rfl rfl) (refpop55_0 lo rb au cu L _ hB59 hF61 (by omega) hz) ?_
    rintro _ w69 ⟨rfl, hx70⟩
    refine ⟨_, rfl, ?_⟩
    have hB71 := hB59.ext hx70
    have hB72 := hB60.ext hx70
    have hB73 := hB57.ext hx70
    have hF74 := hF61.ext hx70
    have hF75 := hF62.ext hx70
    have hE76 : Mod (foot hb rb (PS.mk v es nx (.slice au L.length cu) L)) w0 w69 := hE63.ext hx70
    have hz77 := hE76.le
    have hs78 := hx70.size
    refine st_q (v := .tuple #[.agg #[.int .i64 ((0 : Nat) : Int), .int .i64 ((0 : Nat) : Int)], .bool false]) (x_move rfl) ?_
    refine st_q (v := .agg #[.int .i64 ((0 : Nat) : Int), .int .i64 ((0 : Nat) : Int)]) (x_extract rfl rfl) ?_
    refine st_q (v := .bool false) (x_extract rfl rfl) ?_
    refine st_e (e_alloc T.zv31 ?_)
    intro w79 hA80
    have hx81 := hA80.ext
    have hs82 := hA80.size
    have hB83 : Blk w79.heap w69.heap.size [.int .i64 ((0 : Nat) : Int), .int .i64 ((0 : Nat) : Int)] 31 := hA80.new
    have hB84 := hB71.ext hx81
    have hB85 := hB72.ext hx81
    have hB86 := hB73.ext hx81
    have hF87 := hF74.ext hx81
    have hF88 := hF75.ext hx81
    have hE89 : Mod (foot hb rb (PS.mk v es nx (.slice au L.length cu) L)) w0 w79 := hE76.ext hx81
    have hz90 := hE89.le
    have hs91 := hx81.size
    refine st_s (e_st (v := .agg #[.int .i64 ((0 : Nat) : Int), .int .i64 ((0 : Nat) : Int)]) T.sz31 rfl rfl hB83 (by simp [Value.cells]) (by rfl) ?_)
    intro w92 hP93
    have hB94 : Blk w92.heap w69.heap.size [.int .i64 ((0 : Nat) : Int), .int .i64 ((0 : Nat) : Int)] 31 := hP93.new
    have hs95 := hP93.size
    have hB96 := hB84.pt hP93 (by omega)
    have hB97 := hB85.pt hP93 (by omega)
    have hB98 := hB86.pt hP93 (by omega)
    have hF99 := hF87.pt hP93 (by first | exact hB83.neO hF87 (by decide) | (intro e; have := (hO.lt e).2; omega))
    have hF100 := HeapR.mod hF88 ((Mod.refl (fun k => k = w69.heap.size) _).pt hP93 (.inl rfl)) (fun h => hB83.neB hF88.blk (by decide) h.symm) (fun k e h => hB83.neO hF88.own (by decide) (h ▸ e))
    have hE101 : Mod (foot hb rb (PS.mk v es nx (.slice au L.length cu) L)) w0 w92 := hE89.pt hP93 (.inr (by omega))
    have hz102 := hE101.le
    refine st_q (v := .bool false) (x_assign rfl) ?_
    refine st_nil ?_
    refine kn66 _ _ ?_
    refine seqK fun Q103 kn104 kr105 ke106 => ?_
    refine region ?_
    refine st_q (v := .agg #[.int .i64 ((0 : Nat) : Int), .int .i64 ((0 : Nat) : Int)]) (x_loadA [.int .i64 ((0 : Nat) : Int), .int .i64 ((0 : Nat) : Int)] T.ag31 rfl (hB98.cells 0 [.int .i64 ((0 : Nat) : Int), .int .i64 ((0 : Nat) : Int)] (cells_at rfl))) ?_
    refine st_q (v := .agg #[.int .i64 ((0 : Nat) : Int), .int .i64 ((0 : Nat) : Int)]) (x_loadA [.int .i64 ((0 : Nat) : Int), .int .i64 ((0 : Nat) : Int)] T.ag31 rfl (hB94.cells 0 [.int .i64 ((0 : Nat) : Int), .int .i64 ((0 : Nat) : Int)] (cells_at rfl))) ?_
    refine st_q (v := .bool (decide ((((0 : Nat) : Int), ((0 : Nat) : Int)) = (((0 : Nat) : Int), ((0 : Nat) : Int))))) (x_eql2 T.eq2_31 rfl rfl) ?_
    refine st_if (p := (((0 : Nat) : Int), ((0 : Nat) : Int)) = (((0 : Nat) : Int), ((0 : Nat) : Int))) (x_move rfl) (fun h107 => ?_) (fun h107 => ?_)
    ·
      refine st_gq 3 32 rfl rfl (by decide) ?_
      refine st_q (v := .bool false) (x_move rfl) ?_
      refine st_gq 3 32 rfl rfl (by decide) ?_
      refine st_q (v := .bool false) (x_move rfl) ?_
      refine st_gq 3 32 rfl rfl (by decide) ?_
      refine st_q (v := .bool (decide ((False) ↔ (False)))) (x_eqlB Try.underlying4 rfl rfl) ?_
      refine st_q (v := .bool (decide ((False) ↔ (False)))) (x_pickT rfl rfl) ?_
      refine st_q (v := .bool (decide ((False) ↔ (False)))) (x_assign rfl) ?_
      refine st_nil ?_
      refine kn104 _ _ ?_
      refine ret ?_
      refine kr22 _ _ ?_
      refine kr18 _ _ ?_
      refine leave1 (P := Try.prog) (fn := Try.f24) (t := 6) (v := .bool (decide ((False) ↔ (False)))) rfl rfl ?_
      exact ⟨by first | rw [decide_eq_true hel] | simp, (PS.mk v es nx (.slice au L.length cu) L), ⟨hF100, hhp, hrlo, hB96, hF99, hmt⟩, hE101, fun k h => .inl h, Nat.le_succ _, Nat.le_succ _, by first | exact fun h => absurd h (by assumption) | exact fun _ => ⟨by show L.length = L.length - 1; omega, rfl⟩⟩
    ·
      exact absurd h107 (not_not_intro rfl)
  ·
    refine seqK fun Q108 kn109 kr110 ke111 => ?_
    refine region ?_
    refine st_q (v := .pointer (some ⟨w0.heap.size, 0, none⟩)) (x_field (o := 0) T.fa48_0 rfl) ?_
    refine st_q (v := .int .i64 k0) (x_load1 T.na3 rfl (hB9.one 0 rfl)) ?_
    refine st_q (v := .bool (decide (k0 = 5))) (x_eql rfl rfl) ?_
    refine st_q (v := .bool (decide (k0 = 5))) (x_assign rfl) ?_
    refine st_nil ?_
    refine kn109 _ _ ?_
    refine cnd (p := k0 = 5) rfl (fun h112 => ?_) (fun h112 => ?_)
    ·
      refine seqK fun Q113 kn114 kr115 ke116 => ?_
      refine region ?_
      refine st_q (v := .pointer (some ⟨hb, 0, none⟩)) (x_move rfl) ?_
      refine st_c (t_call [.pointer (some ⟨hb, 0, none⟩)] T.cf29 rfl rfl) (peek29_0 lo hb nx _ v es _ hF12 (by omega)) ?_
      rintro _ w117 ⟨rfl, hx118⟩
      refine ⟨_, rfl, ?_⟩
      have hB119 := hB10.ext hx118
      have hB120 := hB9.ext hx118
      have hF121 := hF11.ext hx118
      have hF122 := hF12.ext hx118
      have hE123 : Mod (foot hb rb (PS.mk v es nx (.slice au L.length cu) L)) w0 w117 := hE13.ext hx118
      have hz124 := hE123.le
      have hs125 := hx118.size
      refine st_q (v := .tuple #[.agg #[.int .i64 ((0 : Nat) : Int), .int .i64 ((0 : Nat) : Int)], .bool false]) (x_move rfl) ?_
      refine st_q (v := .agg #[.int .i64 ((0 : Nat) : Int), .int .i64 ((0 : Nat) : Int)]) (x_extract rfl rfl) ?_
      refine st_q (v := .bool false) (x_extract rfl rfl) ?_
      refine st_e (e_alloc T.zv31 ?_)
      intro w126 hA127
      have hx128 := hA127.ext
      have hs129 := hA127.size
      have hB130 : Blk w126.heap w117.heap.size [.int .i64 ((0 : Nat) : Int), .int .i64 ((0 : Nat) : Int)] 31 := hA127.new
      have hB131 := hB119.ext hx128
      have hB132 := hB120.ext hx128
      have hF133 := hF121.ext hx128
      have hF134 := hF122.ext hx128
      have hE135 : Mod (foot hb rb (PS.mk v es nx (.slice au L.length cu) L)) w0 w126 := hE123.ext hx128
      have hz136 := hE135.le
      have hs137 := hx128.size
      refine st_s (e_st (v := .agg #[.int .i64 ((0 : Nat) : Int), .int .i64 ((0 : Nat) : Int)]) T.sz31 rfl rfl hB130 (by simp [Value.cells]) (by rfl) ?_)
      intro w138 hP139
      have hB140 : Blk w138.heap w117.heap.size [.int .i64 ((0 : Nat) : Int), .int .i64 ((0 : Nat) : Int)] 31 := hP139.new
      have hs141 := hP139.size
      have hB142 := hB131.pt hP139 (by omega)
      have hB143 := hB132.pt hP139 (by omega)
      have hF144 := hF133.pt hP139 (by first | exact hB130.neO hF133 (by decide) | (intro e; have := (hO.lt e).2; omega))
      have hF145 := HeapR.mod hF134 ((Mod.refl (fun k => k = w117.heap.size) _).pt hP139 (.inl rfl)) (fun h => hB130.neB hF134.blk (by decide) h.symm) (fun k e h => hB130.neO hF134.own (by decide) (h ▸ e))
      have hE146 : Mod (foot hb rb (PS.mk v es nx (.slice au L.length cu) L)) w0 w138 := hE135.pt hP139 (.inr (by omega))
      have hz147 := hE146.le
      refine st_q (v := .bool false) (x_assign rfl) ?_
      refine st_nil ?_
      refine kn114 _ _ ?_
      refine seqK fun Q148 kn149 kr150 ke151 => ?_
      refine region ?_
      refine st_q (v := .pointer (some ⟨rb, 0, none⟩)) (x_move rfl) ?_
      refine st_c (t_call [.pointer (some ⟨rb, 0, none⟩)] T.cf56 rfl rfl) (refpeek56_0 lo rb au cu L _ hB142 hF144 (by omega) hz) ?_
      rintro _ w152 ⟨rfl, hx153⟩
      refine ⟨_, rfl, ?_⟩
      have hB154 := hB142.ext hx153
      have hB155 := hB143.ext hx153
      have hB156 := hB140.ext hx153
      have hF157 := hF144.ext hx153
      have hF158 := hF145.ext hx153
      have hE159 : Mod (foot hb rb (PS.mk v es nx (.slice au L.length cu) L)) w0 w152 := hE146.ext hx153
      have hz160 := hE159.le
      have hs161 := hx153.size
      refine st_q (v := .tuple #[.agg #[.int .i64 ((0 : Nat) : Int), .int .i64 ((0 : Nat) : Int)], .bool false]) (x_move rfl) ?_
      refine st_q (v := .agg #[.int .i64 ((0 : Nat) : Int), .int .i64 ((0 : Nat) : Int)]) (x_extract rfl rfl) ?_
      refine st_q (v := .bool false) (x_extract rfl rfl) ?_
      refine st_e (e_alloc T.zv31 ?_)
      intro w162 hA163
      have hx164 := hA163.ext
      have hs165 := hA163.size
      have hB166 : Blk w162.heap w152.heap.size [.int .i64 ((0 : Nat) : Int), .int .i64 ((0 : Nat) : Int)] 31 := hA163.new
      have hB167 := hB154.ext hx164
      have hB168 := hB155.ext hx164
      have hB169 := hB156.ext hx164
      have hF170 := hF157.ext hx164
      have hF171 := hF158.ext hx164
      have hE172 : Mod (foot hb rb (PS.mk v es nx (.slice au L.length cu) L)) w0 w162 := hE159.ext hx164
      have hz173 := hE172.le
      have hs174 := hx164.size
      refine st_s (e_st (v := .agg #[.int .i64 ((0 : Nat) : Int), .int .i64 ((0 : Nat) : Int)]) T.sz31 rfl rfl hB166 (by simp [Value.cells]) (by rfl) ?_)
      intro w175 hP176
      have hB177 : Blk w175.heap w152.heap.size [.int .i64 ((0 : Nat) : Int), .int .i64 ((0 : Nat) : Int)] 31 := hP176.new
      have hs178 := hP176.size
      have hB179 := hB167.pt hP176 (by omega)
      have hB180 := hB168.pt hP176 (by omega)
      have hB181 := hB169.pt hP176 (by omega)
      have hF182 := hF170.pt hP176 (by first | exact hB166.neO hF170 (by decide) | (intro e; have := (hO.lt e).2; omega))
      have hF183 := HeapR.mod hF171 ((Mod.refl (fun k => k = w152.heap.size) _).pt hP176 (.inl rfl)) (fun h => hB166.neB hF171.blk (by decide) h.symm) (fun k e h => hB166.neO hF171.own (by decide) (h ▸ e))
      have hE184 : Mod (foot hb rb (PS.mk v es nx (.slice au L.length cu) L)) w0 w175 := hE172.pt hP176 (.inr (by omega))
      have hz185 := hE184.le
      refine st_q (v := .bool false) (x_assign rfl) ?_
      refine st_nil ?_
      refine kn149 _ _ ?_
      refine seqK fun Q186 kn187 kr188 ke189 => ?_
      refine region ?_
      refine st_q (v := .agg #[.int .i64 ((0 : Nat) : Int), .int .i64 ((0 : Nat) : Int)]) (x_loadA [.int .i64 ((0 : Nat) : Int), .int .i64 ((0 : Nat) : Int)] T.ag31 rfl (hB181.cells 0 [.int .i64 ((0 : Nat) : Int), .int .i64 ((0 : Nat) : Int)] (cells_at rfl))) ?_
      refine st_q (v := .agg #[.int .i64 ((0 : Nat) : Int), .int .i64 ((0 : Nat) : Int)]) (x_loadA [.int .i64 ((0 : Nat) : Int), .int .i64 ((0 : Nat) : Int)] T.ag31 rfl (hB177.cells 0 [.int .i64 ((0 : Nat) : Int), .int .i64 ((0 : Nat) : Int)] (cells_at rfl))) ?_
      refine st_q (v := .bool (decide ((((0 : Nat) : Int), ((0 : Nat) : Int)) = (((0 : Nat) : Int), ((0 : Nat) : Int))))) (x_eql2 T.eq2_31 rfl rfl) ?_
      refine st_if (p := (((0 : Nat) : Int), ((0 : Nat) : Int)) = (((0 : Nat) : Int), ((0 : Nat) : Int))) (x_move rfl) (fun h190 => ?_) (fun h190 => ?_)
      ·
        refine st_gq 3 54 rfl rfl (by decide) ?_
        refine st_q (v := .bool false) (x_move rfl) ?_
        refine st_gq 3 54 rfl rfl (by decide) ?_
        refine st_q (v := .bool false) (x_move rfl) ?_
        refine st_gq 3 54 rfl rfl (by decide) ?_
        refine st_q (v := .bool (decide ((False) ↔ (False)))) (x_eqlB Try.underlying4 rfl rfl) ?_
        refine st_q (v := .bool (decide ((False) ↔ (False)))) (x_pickT rfl rfl) ?_
        refine st_q (v := .bool (decide ((False) ↔ (False)))) (x_assign rfl) ?_
        refine st_nil ?_
        refine kn187 _ _ ?_
        refine ret ?_
        refine kr22 _ _ ?_
        refine kr18 _ _ ?_
        refine leave1 (P := Try.prog) (fn := Try.f24) (t := 6) (v := .bool (decide ((False) ↔ (False)))) rfl rfl ?_
        exact ⟨by first | rw [decide_eq_true hel] | simp, (PS.mk v es nx (.slice au L.length cu) L), ⟨hF183, hhp, hrlo, hB179, hF182, hmt⟩, hE184, fun k h => .inl h, Nat.le_succ _, Nat.le_succ _, by first | exact fun h => absurd h (by assumption) | exact fun _ => ⟨by show L.length = L.length - 1; omega, rfl⟩⟩
      ·
        exact absurd h190 (not_not_intro rfl)
    ·
      refine seqK fun Q191 kn192 kr193 ke194 => ?_
      refine region ?_
      refine st_q (v := .pointer (some ⟨w0.heap.size, 0, none⟩)) (x_field (o := 0) T.fa48_0 rfl) ?_
      refine st_q (v := .int .i64 k0) (x_load1 T.na3 rfl (hB9.one 0 rfl)) ?_
      refine st_q (v := .bool (decide (0 ≤ k0))) (x_geq rfl rfl) ?_
      refine st_if (p := 0 ≤ k0) (x_move rfl) (fun h195 => ?_) (fun h195 => ?_)
      ·
        refine st_gq 3 63 rfl rfl (by decide) ?_
        refine st_q (v := .pointer (some ⟨w0.heap.size, 0, none⟩)) (x_field (o := 0) T.fa48_0 rfl) ?_
        refine st_gq 3 63 rfl rfl (by decide) ?_
        refine st_q (v := .int .i64 k0) (x_load1 T.na3 rfl (hB9.one 0 rfl)) ?_
        refine st_gq 3 63 rfl rfl (by decide) ?_
        refine st_q (v := .bool (decide (k0 ≤ 3))) (x_leq rfl rfl) ?_
        refine st_q (v := .bool (decide (k0 ≤ 3))) (x_pickT rfl rfl) ?_
        refine st_q (v := .bool (decide (k0 ≤ 3))) (x_assign rfl) ?_
        refine st_nil ?_
        refine kn192 _ _ ?_
        refine cnd (p := k0 ≤ 3) rfl (fun h196 => ?_) (fun h196 => ?_)
        ·
          refine seqK fun Q197 kn198 kr199 ke200 => ?_
          refine region ?_
          refine st_q (v := .pointer (some ⟨hb, 0, none⟩)) (x_move rfl) ?_
          refine st_q (v := .pointer (some ⟨w0.heap.size, 2, none⟩)) (x_field (o := 0) T.fa48_2 rfl) ?_
          refine st_q (v := .agg #[.int .i64 z.1, .int .i64 z.2]) (x_loadA [.int .i64 z.1, .int .i64 z.2] T.ag31 rfl (hB9.cells 2 [.int .i64 z.1, .int .i64 z.2] (cells_at rfl))) ?_
          refine st_c (t_call [.pointer (some ⟨hb, 0, none⟩), .agg #[.int .i64 z.1, .int .i64 z.2]] T.cf26 rfl rfl) (push26 lo 20 byc T.cf20 cmp20 byc_law _ told20 hb nx v es z _ hF12 (by omega) hnx hhp) ?_
          rintro _ w201 ⟨rfl, v1, es1, hM202, hH1, hp1, hq1, hv1⟩
          refine ⟨_, rfl, ?_⟩
          have hB203 := hB10.mod hM202 (fun h => h.elim (hB10.neB hF12.blk (by decide)) (fun h => hB10.neO hF12.own (by decide) h))
          have hB204 := hB9.mod hM202 (fun h => h.elim (hB9.neB hF12.blk (by decide)) (fun h => hB9.neO hF12.own (by decide) h))
          have hF205 := hF11.mod hM202 (fun k e h => h.elim (fun h => hF12.blk.neO hF11 (by decide) (h ▸ e)) (fun h => hF11.neT hF12.own (by decide) e h))
          have hE206 : Mod (foot hb rb (PS.mk v es nx (.slice au L.length cu) L)) w0 w201 := Mod.trans' hE13 hM202 (fun i hi => .inl (hi.elim .inl (fun e => .inr (.inl e))))
          have hz207 := hE206.le
          have hs208 := hM202.size
          refine st_nil ?_
          refine kn198 _ _ ?_
          refine region ?_
          refine st_q (v := .pointer (some ⟨rb, 0, none⟩)) (x_move rfl) ?_
          refine st_q (v := .pointer (some ⟨w0.heap.size, 2, none⟩)) (x_field (o := 0) T.fa48_2 rfl) ?_
          refine st_q (v := .agg #[.int .i64 z.1, .int .i64 z.2]) (x_loadA [.int .i64 z.1, .int .i64 z.2] T.ag31 rfl (hB204.cells 2 [.int .i64 z.1, .int .i64 z.2] (cells_at rfl))) ?_
          refine st_c (t_call [.pointer (some ⟨rb, 0, none⟩), .agg #[.int .i64 z.1, .int .i64 z.2]] T.cf57 rfl rfl) (refpush57 lo rb au cu L z _ hB203 hF205 (by omega) (by omega)) ?_
          rintro _ w209 ⟨rfl, u1, hB1, hO1, hM210, hu1⟩
          refine ⟨_, rfl, ?_⟩
          have hB211 := hB204.mod hM210 (fun h => h.elim (hB204.neB hB203 (by decide)) (fun h => hB204.neO hF205 (by decide) h))
          have hF212 := hH1.mod hM210 (fun h => h.elim (fun h => hB203.neB hH1.blk (by decide) h.symm) (fun h => hH1.blk.neO hF205 (by decide) h)) (fun k e h => h.elim (fun h => hB203.neO hH1.own (by decide) (h ▸ e)) (fun h => hF205.neT hH1.own (by decide) h e))
          have hE213 : Mod (foot hb rb (PS.mk v es nx (.slice au L.length cu) L)) w0 w209 := Mod.trans' hE206 hM210 (fun i hi => .inl (hi.elim (fun e => .inr (.inr (.inl e))) (fun e => .inr (.inr (.inr e)))))
          have hz214 := hE213.le
          have hs215 := hM210.size
          obtain ⟨a1, c1, rfl, hc1, hc11⟩ := hO1.src.form
          refine st_nil ?_
          refine kn21 _ _ ?_
          refine kn17 _ _ ?_
          refine seqK fun Q216 kn217 kr218 ke219 => ?_
          refine regionD1 [5] [0, 2, 3, 4, 5, 6, 7, 8] (.one 0 (.one 2 (.one 3 (.one 4 (.one 5 (.one 6 (.one 1 (.one 7 (.one 8 .done))))))))) (by kernel_rfl) (by kernel_rfl) ?_
          intro w220 hx221 hs222
          have hB223 := hB211.ext hx221
          have hB224 := hB1.ext hx221
          have hF225 := hF212.ext hx221
          have hF226 := hO1.ext hx221
          have hE227 : Mod (foot hb rb (PS.mk v es nx (.slice au L.length cu) L)) w0 w220 := hE213.ext hx221
          have hz228 := hE227.le
          have hs229 := hx221.size
          have hS230 : Ext w220 w220 := Below.refl _ _
          refine d_q (v := .pointer (some ⟨hb, 0, none⟩)) rfl rfl (fun _ => x_move rfl) ?_
          refine d_q (v := .pointer (some ⟨rb, 0, none⟩)) rfl rfl (fun _ => x_move rfl) ?_
          refine d_q (v := .pointer (some ⟨rb, 0, none⟩)) rfl rfl (fun _ => x_nilCheck rfl) ?_
          refine d_q (v := .pointer (some ⟨rb, 0, none⟩)) rfl rfl (fun _ => x_field (o := 0) T.fa45_0 rfl) ?_
          refine d_l (v := .slice a1 ((L ++ [z]).length) c1) rfl rfl rfl (fun v232 hw231 => x_load1 T.na29 rfl ((hB224.one 0 rfl).ext hw231)) ?_
          refine d_q (v := .int .i64 (((L ++ [z]).length : Nat) : Int)) rfl rfl (fun _ => x_lenSl rfl Try.underlying29 rfl) ?_
          refine d_e (by decide) (d_c' rfl rfl (t_call [.pointer (some ⟨hb, 0, none⟩)] T.cf25 rfl rfl) (len25 lo hb (nx + 1) _ v1 es1 _ hF225) ?_)
          rintro _ w233 ⟨rfl, hx234⟩
          refine ⟨_, rfl, ?_⟩
          have hB235 := hB223.ext hx234
          have hB236 := hB224.ext hx234
          have hF237 := hF225.ext hx234
          have hF238 := hF226.ext hx234
          have hE239 : Mod (foot hb rb (PS.mk v es nx (.slice au L.length cu) L)) w0 w233 := hE227.ext hx234
          have hz240 := hE239.le
          have hs241 := hx234.size
          have hS242 := hS230.trans (hx234.mono hS230.size)
          refine ⟨fun _ => hS242, ?_⟩
          refine d_q (v := .bool (decide (es1.length = ((L ++ [z]).length)))) rfl rfl (fun _ => x_eqlN rfl rfl) ?_
          refine d_q (v := .bool (decide (es1.length = ((L ++ [z]).length)))) rfl rfl (fun _ => x_assign rfl) ?_
          refine d_done ?_
          refine kn217 _ _ ?_
          refine ret ?_
          refine leave1 (P := Try.prog) (fn := Try.f24) (t := 6) (v := .bool (decide (es1.length = ((L ++ [z]).length)))) rfl rfl ?_
          have hel1 := (hmt.push hq1).len
          refine ⟨by rw [decide_eq_true hel1], PS.mk v1 es1 (nx + 1) _ (L ++ [z]), ⟨hF237, hp1, hrlo, hB236, hF238, hmt.push hq1⟩, hE239, ?_, by simp, Nat.le_refl _, fun h => absurd h (by assumption)⟩
          rintro k (h | h | h | h)
          · exact .inl (.inl h)
          · exact hv1.elim (fun e => .inl (.inr (.inl (e ▸ h)))) (fun e => .inr (by have := e k h; omega))
          · exact .inl (.inr (.inr (.inl h)))
          · exact hu1.elim (fun e => .inl (.inr (.inr (.inr (e ▸ h))))) (fun e => .inr (by have := e k h; omega))
        ·
          refine skip ?_
          refine kn21 _ _ ?_
          refine kn17 _ _ ?_
          refine seqK fun Q243 kn244 kr245 ke246 => ?_
          refine regionD1 [5] [0, 2, 3, 4, 5, 6, 7, 8] (.one 0 (.one 2 (.one 3 (.one 4 (.one 5 (.one 6 (.one 1 (.one 7 (.one 8 .done))))))))) (by kernel_rfl) (by kernel_rfl) ?_
          intro w247 hx248 hs249
          have hB250 := hB10.ext hx248
          have hB251 := hB9.ext hx248
          have hF252 := hF11.ext hx248
          have hF253 := hF12.ext hx248
          have hE254 : Mod (foot hb rb (PS.mk v es nx (.slice au L.length cu) L)) w0 w247 := hE13.ext hx248
          have hz255 := hE254.le
          have hs256 := hx248.size
          have hS257 : Ext w247 w247 := Below.refl _ _
          refine d_q (v := .pointer (some ⟨hb, 0, none⟩)) rfl rfl (fun _ => x_move rfl) ?_
          refine d_q (v := .pointer (some ⟨rb, 0, none⟩)) rfl rfl (fun _ => x_move rfl) ?_
          refine d_q (v := .pointer (some ⟨rb, 0, none⟩)) rfl rfl (fun _ => x_nilCheck rfl) ?_
          refine d_q (v := .pointer (some ⟨rb, 0, none⟩)) rfl rfl (fun _ => x_field (o := 0) T.fa45_0 rfl) ?_
          refine d_l (v := .slice au L.length cu) rfl rfl rfl (fun v259 hw258 => x_load1 T.na29 rfl ((hB250.one 0 rfl).ext hw258)) ?_
          refine d_q (v := .int .i64 ((L.length : Nat) : Int)) rfl rfl (fun _ => x_lenSl rfl Try.underlying29 rfl) ?_
          refine d_e (by decide) (d_c' rfl rfl (t_call [.pointer (some ⟨hb, 0, none⟩)] T.cf25 rfl rfl) (len25 lo hb nx _ v es _ hF253) ?_)
          rintro _ w260 ⟨rfl, hx261⟩
          refine ⟨_, rfl, ?_⟩
          have hB262 := hB250.ext hx261
          have hB263 := hB251.ext hx261
          have hF264 := hF252.ext hx261
          have hF265 := hF253.ext hx261
          have hE266 : Mod (foot hb rb (PS.mk v es nx (.slice au L.length cu) L)) w0 w260 := hE254.ext hx261
          have hz267 := hE266.le
          have hs268 := hx261.size
          have hS269 := hS257.trans (hx261.mono hS257.size)
          refine ⟨fun _ => hS269, ?_⟩
          refine d_q (v := .bool (decide (es.length = L.length))) rfl rfl (fun _ => x_eqlN rfl rfl) ?_
          refine d_q (v := .bool (decide (es.length = L.length))) rfl rfl (fun _ => x_assign rfl) ?_
          refine d_done ?_
          refine kn244 _ _ ?_
          refine ret ?_
          refine leave1 (P := Try.prog) (fn := Try.f24) (t := 6) (v := .bool (decide (es.length = L.length))) rfl rfl ?_
          exact ⟨by first | rw [decide_eq_true hel] | simp, (PS.mk v es nx (.slice au L.length cu) L), ⟨hF265, hhp, hrlo, hB262, hF264, hmt⟩, hE266, fun k h => .inl h, Nat.le_succ _, Nat.le_succ _, by first | exact fun h => absurd h (by assumption) | exact fun _ => ⟨by show L.length = L.length - 1; omega, rfl⟩⟩
      ·
        refine st_gn 3 63 rfl rfl (by decide) rfl ?_
        refine st_gn 3 63 rfl rfl (by decide) rfl ?_
        refine st_gn 3 63 rfl rfl (by decide) rfl ?_
        refine st_q (v := .bool false) (x_pickF rfl rfl) ?_
        refine st_q (v := .bool false) (x_assign rfl) ?_
        refine st_nil ?_
        refine kn192 _ _ ?_
        refine cndF rfl ?_
        refine skip ?_
        refine kn21 _ _ ?_
        refine kn17 _ _ ?_
        refine seqK fun Q270 kn271 kr272 ke273 => ?_
        refine regionD1 [5] [0, 2, 3, 4, 5, 6, 7, 8] (.one 0 (.one 2 (.one 3 (.one 4 (.one 5 (.one 6 (.one 1 (.one 7 (.one 8 .done))))))))) (by kernel_rfl) (by kernel_rfl) ?_
        intro w274 hx275 hs276
        have hB277 := hB10.ext hx275
        have hB278 := hB9.ext hx275
        have hF279 := hF11.ext hx275
        have hF280 := hF12.ext hx275
        have hE281 : Mod (foot hb rb (PS.mk v es nx (.slice au L.length cu) L)) w0 w274 := hE13.ext hx275
        have hz282 := hE281.le
        have hs283 := hx275.size
        have hS284 : Ext w274 w274 := Below.refl _ _
        refine d_q (v := .pointer (some ⟨hb, 0, none⟩)) rfl rfl (fun _ => x_move rfl) ?_
        refine d_q (v := .pointer (some ⟨rb, 0, none⟩)) rfl rfl (fun _ => x_move rfl) ?_
        refine d_q (v := .pointer (some ⟨rb, 0, none⟩)) rfl rfl (fun _ => x_nilCheck rfl) ?_
        refine d_q (v := .pointer (some ⟨rb, 0, none⟩)) rfl rfl (fun _ => x_field (o := 0) T.fa45_0 rfl) ?_
        refine d_l (v := .slice au L.length cu) rfl rfl rfl (fun v286 hw285 => x_load1 T.na29 rfl ((hB277.one 0 rfl).ext hw285)) ?_
        refine d_q (v := .int .i64 ((L.length : Nat) : Int)) rfl rfl (fun _ => x_lenSl rfl Try.underlying29 rfl) ?_
        refine d_e (by decide) (d_c' rfl rfl (t_call [.pointer (some ⟨hb, 0, none⟩)] T.cf25 rfl rfl) (len25 lo hb nx _ v es _ hF280) ?_)
        rintro _ w287 ⟨rfl, hx288⟩
        refine ⟨_, rfl, ?_⟩
        have hB289 := hB277.ext hx288
        have hB290 := hB278.ext hx288
        have hF291 := hF279.ext hx288
        have hF292 := hF280.ext hx288
        have hE293 : Mod (foot hb rb (PS.mk v es nx (.slice au L.length cu) L)) w0 w287 := hE281.ext hx288
        have hz294 := hE293.le
        have hs295 := hx288.size
        have hS296 := hS284.trans (hx288.mono hS284.size)
        refine ⟨fun _ => hS296, ?_⟩
        refine d_q (v := .bool (decide (es.length = L.length))) rfl rfl (fun _ => x_eqlN rfl rfl) ?_
        refine d_q (v := .bool (decide (es.length = L.length))) rfl rfl (fun _ => x_assign rfl) ?_
        refine d_done ?_
        refine kn271 _ _ ?_
        refine ret ?_
        refine leave1 (P := Try.prog) (fn := Try.f24) (t := 6) (v := .bool (decide (es.length = L.length))) rfl rfl ?_
        exact ⟨by first | rw [decide_eq_true hel] | simp, (PS.mk v es nx (.slice au L.length cu) L), ⟨hF292, hhp, hrlo, hB289, hF291, hmt⟩, hE293, fun k h => .inl h, Nat.le_succ _, Nat.le_succ _, by first | exact fun h => absurd h (by assumption) | exact fun _ => ⟨by show L.length = L.length - 1; omega, rfl⟩⟩

set_option maxHeartbeats 4000000 in
theorem does24_1 (lo hb rb : Nat) (v : Value) (es : List ((Int × Int) × Nat)) (nx : Nat) (au : Option Addr) (cu : Nat) (L : List (Int × Int)) (k0 n0 : Int) (z : Int × Int) (w0 : World) (hH : HeapR w0.heap lo 57 78 3 (enE enT) hb (.func (.func 20) #[] #[]) v es nx) (hhp : HP (ah byc) es) (hrlo : lo ≤ rb) (hB : Blk w0.heap rb [.slice au L.length cu] 45) (hO : Own w0.heap lo 31 2 (.slice au L.length cu) L.length (flat enT L)) (hmt : Mt es L nx) (hz : 0 < L.length) (hlen : L.length ≤ 4398046511000) (hnx : nx ≤ 4611686018427387904) (hlo : lo ≤ w0.heap.size) : Calls Try.prog 24 #[.pointer (some ⟨hb, 0, none⟩), .pointer (some ⟨rb, 0, none⟩), .agg #[.int .i64 k0, .int .i64 n0, .int .i64 z.1, .int .i64 z.2]] w0 fun e w' => e = .returned (.bool true) ∧ ∃ X', PairR w'.heap lo hb rb X' ∧ Mod (foot hb rb (PS.mk v es nx (.slice au L.length cu) L)) w0 w' ∧ (∀ k, foot hb rb X' k → foot hb rb (PS.mk v es nx (.slice au L.length cu) L) k ∨ w0.heap.size ≤ k) ∧ X'.L.length ≤ L.length + 1 ∧ X'.nx ≤ nx + 1 ∧ (k0 = 4 → X'.L.length = L.length - 1 ∧ X'.nx = nx) := by
  have hE0 : Mod (foot hb rb (PS.mk v es nx (.slice au L.length cu) L)) w0 w0 := Mod.refl _ _
  have hz0 := hE0.le
  have hel := hmt.len
  have hbl := hH.blk.lt
  have hrl := hB.lt
  refine enter Try.func24 rfl 84 Try.ntmps24 rfl ?_
  refine seqK fun Q1 kn2 kr3 ke4 => ?_
  refine region ?_
  refine st_e (e_box (v := .agg #[.int .i64 k0, .int .i64 n0, .int .i64 z.1, .int .i64 z.2]) rfl ?_)
  intro w5 hA6
  have hx7 := hA6.ext
  have hs8 := hA6.size
  have hB9 : Blk w5.heap w0.heap.size [.int .i64 k0, .int .i64 n0, .int .i64 z.1, .int .i64 z.2] 48 := hA6.new
  have hB10 := hB.ext hx7
  have hF11 := hO.ext hx7
  have hF12 := hH.ext hx7
  have hE13 : Mod (foot hb rb (PS.mk v es nx (.slice au L.length cu) L)) w0 w5 := hE0.ext hx7
  have hz14 := hE13.le
  have hs15 := hx7.size
  refine st_q (v := .bool false) (x_assign rfl) ?_
  refine st_nil ?_
  refine kn2 _ _ ?_
  refine seqK fun Q16 kn17 kr18 ke19 => ?_
  refine blockK fun Q20 kn21 kr22 kx23 kb24 => ?_
  refine seqK fun Q25 kn26 kr27 ke28 => ?_
  refine region ?_
  refine st_q (v := .pointer (some ⟨w0.heap.size, 0, none⟩)) (x_field (o := 0) T.fa48_0 rfl) ?_
  refine st_q (v := .int .i64 k0) (x_load1 T.na3 rfl (hB9.one 0 rfl)) ?_
  refine st_q (v := .bool (decide (k0 = 4))) (x_eql rfl rfl) ?_
  refine st_q (v := .bool (decide (k0 = 4))) (x_assign rfl) ?_
  refine st_nil ?_
  refine kn26 _ _ ?_
  refine cnd (p := k0 = 4) rfl (fun h29 => ?_) (fun h29 => ?_)
  ·
    refine seqK fun Q30 kn31 kr32 ke33 => ?_
    refine region ?_
    refine st_q (v := .pointer (some ⟨hb, 0, none⟩)) (x_move rfl) ?_
    refine st_c (t_call [.pointer (some ⟨hb, 0, none⟩)] T.cf28 rfl rfl) (pop28 lo 20 byc T.cf20 cmp20 byc_law _ told20 hb nx v es _ hF12 (by omega) (by omega) hhp) ?_
    rintro _ w34 ⟨rfl, v1, es1, hM35, hH1, hp1, hq1, hv1⟩
    refine ⟨_, rfl, ?_⟩
    have hB36 := hB10.mod hM35 (fun h => h.elim (hB10.neB hF12.blk (by decide)) (fun h => hB10.neO hF12.own (by decide) h))
    have hB37 := hB9.mod hM35 (fun h => h.elim (hB9.neB hF12.blk (by decide)) (fun h => hB9.neO hF12.own (by decide) h))
    have hF38 := hF11.mod hM35 (fun k e h => h.elim (fun h => hF12.blk.neO hF11 (by decide) (h ▸ e)) (fun h => hF11.neT hF12.own (by decide) e h))
    have hE39 : Mod (foot hb rb (PS.mk v es nx (.slice au L.length cu) L)) w0 w34 := Mod.trans' hE13 hM35 (fun i hi => .inl (hi.elim .inl (fun e => .inr (.inl e))))
    have hz40 := hE39.le
    have hs41 := hM35.size
    refine st_q (v := .tuple #[.agg #[.int .i64 ((el es 0).1.1), .int .i64 ((el es 0).1.2)], .bool true]) (x_move rfl) ?_
    refine st_q (v := .agg #[.int .i64 ((el es 0).1.1), .int .i64 ((el es 0).1.2)]) (x_extract rfl rfl) ?_
    refine st_q (v := .bool true) (x_extract rfl rfl) ?_
    refine st_e (e_alloc T.zv31 ?_)
    intro w42 hA43
    have hx44 := hA43.ext
    have hs45 := hA43.size
    have hB46 : Blk w42.heap w34.heap.size [.int .i64 ((0 : Nat) : Int), .int .i64 ((0 : Nat) : Int)] 31 := hA43.new
    have hB47 := hB36.ext hx44
    have hB48 := hB37.ext hx44
    have hF49 := hF38.ext hx44
    have hF50 := hH1.ext hx44
    have hE51 : Mod (foot hb rb (PS.mk v es nx (.slice au L.length cu) L)) w0 w42 := hE39.ext hx44
    have hz52 := hE51.le
    have hs53 := hx44.size
    refine st_s (e_st (v := .agg #[.int .i64 ((el es 0).1.1), .int .i64 ((el es 0).1.2)]) T.sz31 rfl rfl hB46 (by simp [Value.cells]) (by rfl) ?_)
    intro w54 hP55
    have hB56 : Blk w54.heap w34.heap.size [.int .i64 ((el es 0).1.1), .int .i64 ((el es 0).1.2)] 31 := hP55.new
    have hs57 := hP55.size
    have hB58 := hB47.pt hP55 (by omega)
    have hB59 := hB48.pt hP55 (by omega)
    have hF60 := hF49.pt hP55 (by first | exact hB46.neO hF49 (by decide) | (intro e; have := (hO.lt e).2; omega))
    have hF61 := HeapR.mod hF50 ((Mod.refl (fun k => k = w34.heap.size) _).pt hP55 (.inl rfl)) (fun h => hB46.neB hF50.blk (by decide) h.symm) (fun k e h => hB46.neO hF50.own (by decide) (h ▸ e))
    have hE62 : Mod (foot hb rb (PS.mk v es nx (.slice au L.length cu) L)) w0 w54 := hE51.pt hP55 (.inr (by omega))
    have hz63 := hE62.le
    refine st_q (v := .bool true) (x_assign rfl) ?_
    refine st_nil ?_
    refine kn31 _ _ ?_
    refine seqK fun Q64 kn65 kr66 ke67 => ?_
    refine region ?_
    refine st_q (v := .pointer (some ⟨rb, 0, none⟩)) (x_move rfl) ?_
    refine st_c (t_call [.pointer (some ⟨rb, 0, none⟩)] T.cf55 rfl rfl) (refpop55_1 lo rb au cu L _ hB58 hF60 (by omega) hz) ?_
    rintro _ w68 ⟨f, rfl, hF, u1, hB1, hO1, hM69, hu1⟩
    refine ⟨_, rfl, ?_⟩
    have hB70 := hB59.mod hM69 (fun h => hB59.neB hB58 (by decide) h)
    have hB71 := hB56.mod hM69 (fun h => hB56.neB hB58 (by decide) h)
    have hF72 := hF61.mod hM69 (fun h => hB58.neB hF61.blk (by decide) h.symm) (fun k e h => hB58.neO hF61.own (by decide) (h ▸ e))
    have hE73 : Mod (foot hb rb (PS.mk v es nx (.slice au L.length cu) L)) w0 w68 := Mod.trans' hE62 hM69 (fun i hi => .inl (.inr (.inr (.inl hi))))
    have hz74 := hE73.le
    have hs75 := hM69.size
    obtain ⟨a1, c1, rfl, hc1, hc11⟩ := hO1.src.form
    have hroot : (el es 0).1 = el L f.toNat := hmt.root hhp hz hF
    have hO2 := hO1.weak (lo' := lo) (by omega)
    refine st_q (v := .tuple #[.agg #[.int .i64 ((el L f.toNat).1), .int .i64 ((el L f.toNat).2)], .bool true]) (x_move rfl) ?_
    refine st_q (v := .agg #[.int .i64 ((el L f.toNat).1), .int .i64 ((el L f.toNat).2)]) (x_extract rfl rfl) ?_
    refine st_q (v := .bool true) (x_extract rfl rfl) ?_
    refine st_e (e_alloc T.zv31 ?_)
    intro w76 hA77
    have hx78 := hA77.ext
    have hs79 := hA77.size
    have hB80 : Blk w76.heap w68.heap.size [.int .i64 ((0 : Nat) : Int), .int .i64 ((0 : Nat) : Int)] 31 := hA77.new
    have hB81 := hB70.ext hx78
    have hB82 := hB71.ext hx78
    have hB83 := hB1.ext hx78
    have hF84 := hF72.ext hx78
    have hF85 := hO2.ext hx78
    have hE86 : Mod (foot hb rb (PS.mk v es nx (.slice au L.length cu) L)) w0 w76 := hE73.ext hx78
    have hz87 := hE86.le
    have hs88 := hx78.size
    refine st_s (e_st (v := .agg #[.int .i64 ((el L f.toNat).1), .int .i64 ((el L f.toNat).2)]) T.sz31 rfl rfl hB80 (by simp [Value.cells]) (by rfl) ?_)
    intro w89 hP90
    have hB91 : Blk w89.heap w68.heap.size [.int .i64 ((el L f.toNat).1), .int .i64 ((el L f.toNat).2)] 31 := hP90.new
    have hs92 := hP90.size
    have hB93 := hB81.pt hP90 (by omega)
    have hB94 := hB82.pt hP90 (by omega)
    have hB95 := hB83.pt hP90 (by omega)
    have hF96 := HeapR.mod hF84 ((Mod.refl (fun k => k = w68.heap.size) _).pt hP90 (.inl rfl)) (fun h => hB80.neB hF84.blk (by decide) h.symm) (fun k e h => hB80.neO hF84.own (by decide) (h ▸ e))
    have hF97 := hF85.pt hP90 (by first | exact hB80.neO hF85 (by decide) | (intro e; have := (hO1.lt e).2; omega))
    have hE98 : Mod (foot hb rb (PS.mk v es nx (.slice au L.length cu) L)) w0 w89 := hE86.pt hP90 (.inr (by omega))
    have hz99 := hE98.le
    refine st_q (v := .bool true) (x_assign rfl) ?_
    refine st_nil ?_
    refine kn65 _ _ ?_
    refine seqK fun Q100 kn101 kr102 ke103 => ?_
    refine region ?_
    refine st_q (v := .agg #[.int .i64 ((el es 0).1.1), .int .i64 ((el es 0).1.2)]) (x_loadA [.int .i64 ((el es 0).1.1), .int .i64 ((el es 0).1.2)] T.ag31 rfl (hB94.cells 0 [.int .i64 ((el es 0).1.1), .int .i64 ((el es 0).1.2)] (cells_at rfl))) ?_
    refine st_q (v := .agg #[.int .i64 ((el L f.toNat).1), .int .i64 ((el L f.toNat).2)]) (x_loadA [.int .i64 ((el L f.toNat).1), .int .i64 ((el L f.toNat).2)] T.ag31 rfl (hB91.cells 0 [.int .i64 ((el L f.toNat).1), .int .i64 ((el L f.toNat).2)] (cells_at rfl))) ?_
    refine st_q (v := .bool (decide ((el es 0).1 = (el L f.toNat)))) (x_eql2 T.eq2_31 rfl rfl) ?_
    refine st_if (p := (el es 0).1 = (el L f.toNat)) (x_move rfl) (fun h104 => ?_) (fun h104 => ?_)
    ·
      refine st_gq 3 32 rfl rfl (by decide) ?_
      refine st_q (v := .bool true) (x_move rfl) ?_
      refine st_gq 3 32 rfl rfl (by decide) ?_
      refine st_q (v := .bool true) (x_move rfl) ?_
      refine st_gq 3 32 rfl rfl (by decide) ?_
      refine st_q (v := .bool (decide ((True) ↔ (True)))) (x_eqlB Try.underlying4 rfl rfl) ?_
      refine st_q (v := .bool (decide ((True) ↔ (True)))) (x_pickT rfl rfl) ?_
      refine st_q (v := .bool (decide ((True) ↔ (True)))) (x_assign rfl) ?_
      refine st_nil ?_
      refine kn101 _ _ ?_
      refine ret ?_
      refine kr22 _ _ ?_
      refine kr18 _ _ ?_
      refine leave1 (P := Try.prog) (fn := Try.f24) (t := 6) (v := .bool (decide ((True) ↔ (True)))) rfl rfl ?_
      have hel1 : (L.eraseIdx f.toNat).length = L.length - 1 := List.length_eraseIdx_of_lt (hF.2 hz).2.1
      refine ⟨by simp, PS.mk v1 es1 nx _ (L.eraseIdx f.toNat), ⟨hF96, hp1, hrlo, hB95, hF97, hmt.pop hhp hz hF hq1⟩, hE98, ?_, by show (L.eraseIdx f.toNat).length ≤ _; omega, Nat.le_succ _, fun _ => ⟨hel1, rfl⟩⟩
      rintro k (h | h | h | h)
      · exact .inl (.inl h)
      · exact .inl (.inr (.inl (hv1 ▸ h)))
      · exact .inl (.inr (.inr (.inl h)))
      · exact .inr (by have := hu1 k h; omega)
    ·
      exact absurd h104 (not_not_intro hroot)
  ·
    refine seqK fun Q105 kn106 kr107 ke108 => ?_
    refine region ?_
    refine st_q (v := .pointer (some ⟨w0.heap.size, 0, none⟩)) (x_field (o := 0) T.fa48_0 rfl) ?_
    refine st_q (v := .int .i64 k0) (x_load1 T.na3 rfl (hB9.one 0 rfl)) ?_
    refine st_q (v := .bool (decide (k0 = 5))) (x_eql rfl rfl) ?_
    refine st_q (v := .bool (decide (k0 = 5))) (x_assign rfl) ?_
    refine st_nil ?_
    refine kn106 _ _ ?_
    refine cnd (p := k0 = 5) rfl (fun h109 => ?_) (fun h109 => ?_)
    ·
      refine seqK fun Q110 kn111 kr112 ke113 => ?_
      refine region ?_
      refine st_q (v := .pointer (some ⟨hb, 0, none⟩)) (x_move rfl) ?_
      refine st_c (t_call [.pointer (some ⟨hb, 0, none⟩)] T.cf29 rfl rfl) (peek29_1 lo hb nx _ v es _ hF12 (by omega)) ?_
      rintro _ w114 ⟨rfl, hx115⟩
      refine ⟨_, rfl, ?_⟩
      have hB116 := hB10.ext hx115
      have hB117 := hB9.ext hx115
      have hF118 := hF11.ext hx115
      have hF119 := hF12.ext hx115
      have hE120 : Mod (foot hb rb (PS.mk v es nx (.slice au L.length cu) L)) w0 w114 := hE13.ext hx115
      have hz121 := hE120.le
      have hs122 := hx115.size
      refine st_q (v := .tuple #[.agg #[.int .i64 ((el es 0).1.1), .int .i64 ((el es 0).1.2)], .bool true]) (x_move rfl) ?_
      refine st_q (v := .agg #[.int .i64 ((el es 0).1.1), .int .i64 ((el es 0).1.2)]) (x_extract rfl rfl) ?_
      refine st_q (v := .bool true) (x_extract rfl rfl) ?_
      refine st_e (e_alloc T.zv31 ?_)
      intro w123 hA124
      have hx125 := hA124.ext
      have hs126 := hA124.size
      have hB127 : Blk w123.heap w114.heap.size [.int .i64 ((0 : Nat) : Int), .int .i64 ((0 : Nat) : Int)] 31 := hA124.new
      have hB128 := hB116.ext hx125
      have hB129 := hB117.ext hx125
      have hF130 := hF118.ext hx125
      have hF131 := hF119.ext hx125
      have hE132 : Mod (foot hb rb (PS.mk v es nx (.slice au L.length cu) L)) w0 w123 := hE120.ext hx125
      have hz133 := hE132.le
      have hs134 := hx125.size
      refine st_s (e_st (v := .agg #[.int .i64 ((el es 0).1.1), .int .i64 ((el es 0).1.2)]) T.sz31 rfl rfl hB127 (by simp [Value.cells]) (by rfl) ?_)
      intro w135 hP136
      have hB137 : Blk w135.heap w114.heap.size [.int .i64 ((el es 0).1.1), .int .i64 ((el es 0).1.2)] 31 := hP136.new
      have hs138 := hP136.size
      have hB139 := hB128.pt hP136 (by omega)
      have hB140 := hB129.pt hP136 (by omega)
      have hF141 := hF130.pt hP136 (by first | exact hB127.neO hF130 (by decide) | (intro e; have := (hO.lt e).2; omega))
      have hF142 := HeapR.mod hF131 ((Mod.refl (fun k => k = w114.heap.size) _).pt hP136 (.inl rfl)) (fun h => hB127.neB hF131.blk (by decide) h.symm) (fun k e h => hB127.neO hF131.own (by decide) (h ▸ e))
      have hE143 : Mod (foot hb rb (PS.mk v es nx (.slice au L.length cu) L)) w0 w135 := hE132.pt hP136 (.inr (by omega))
      have hz144 := hE143.le
      refine st_q (v := .bool true) (x_assign rfl) ?_
      refine st_nil ?_
      refine kn111 _ _ ?_
      refine seqK fun Q145 kn146 kr147 ke148 => ?_
      refine region ?_
      refine st_q (v := .pointer (some ⟨rb, 0, none⟩)) (x_move rfl) ?_
      refine st_c (t_call [.pointer (some ⟨rb, 0, none⟩)] T.cf56 rfl rfl) (refpeek56_1 lo rb au cu L _ hB139 hF141 (by omega) hz) ?_
      rintro _ w149 ⟨f, rfl, hF, hx150⟩
      have hroot : (el es 0).1 = el L f.toNat := hmt.root hhp hz hF
      refine ⟨_, rfl, ?_⟩
      have hB151 := hB139.ext hx150
      have hB152 := hB140.ext hx150
      have hB153 := hB137.ext hx150
      have hF154 := hF141.ext hx150
      have hF155 := hF142.ext hx150
      have hE156 : Mod (foot hb rb (PS.mk v es nx (.slice au L.length cu) L)) w0 w149 := hE143.ext hx150
      have hz157 := hE156.le
      have hs158 := hx150.size
      refine st_q (v := .tuple #[.agg #[.int .i64 ((el L f.toNat).1), .int .i64 ((el L f.toNat).2)], .bool true]) (x_move rfl) ?_
      refine st_q (v := .agg #[.int .i64 ((el L f.toNat).1), .int .i64 ((el L f.toNat).2)]) (x_extract rfl rfl) ?_
      refine st_q (v := .bool true) (x_extract rfl rfl) ?_
      refine st_e (e_alloc T.zv31 ?_)
      intro w159 hA160
      have hx161 := hA160.ext
      have hs162 := hA160.size
      have hB163 : Blk w159.heap w149.heap.size [.int .i64 ((0 : Nat) : Int), .int .i64 ((0 : Nat) : Int)] 31 := hA160.new
      have hB164 := hB151.ext hx161
      have hB165 := hB152.ext hx161
      have hB166 := hB153.ext hx161
      have hF167 := hF154.ext hx161
      have hF168 := hF155.ext hx161
      have hE169 : Mod (foot hb rb (PS.mk v es nx (.slice au L.length cu) L)) w0 w159 := hE156.ext hx161
      have hz170 := hE169.le
      have hs171 := hx161.size
      refine st_s (e_st (v := .agg #[.int .i64 ((el L f.toNat).1), .int .i64 ((el L f.toNat).2)]) T.sz31 rfl rfl hB163 (by simp [Value.cells]) (by rfl) ?_)
      intro w172 hP173
      have hB174 : Blk w172.heap w149.heap.size [.int .i64 ((el L f.toNat).1), .int .i64 ((el L f.toNat).2)] 31 := hP173.new
      have hs175 := hP173.size
      have hB176 := hB164.pt hP173 (by omega)
      have hB177 := hB165.pt hP173 (by omega)
      have hB178 := hB166.pt hP173 (by omega)
      have hF179 := hF167.pt hP173 (by first | exact hB163.neO hF167 (by decide) | (intro e; have := (hO.lt e).2; omega))
      have hF180 := HeapR.mod hF168 ((Mod.refl (fun k => k = w149.heap.size) _).pt hP173 (.inl rfl)) (fun h => hB163.neB hF168.blk (by decide) h.symm) (fun k e h => hB163.neO hF168.own (by decide) (h ▸ e))
      have hE181 : Mod (foot hb rb (PS.mk v es nx (.slice au L.length cu) L)) w0 w172 := hE169.pt hP173 (.inr (by omega))
      have hz182 := hE181.le
      refine st_q (v := .bool true) (x_assign rfl) ?_
      refine st_nil ?_
      refine kn146 _ _ ?_
      refine seqK fun Q183 kn184 kr185 ke186 => ?_
      refine region ?_
      refine st_q (v := .agg #[.int .i64 ((el es 0).1.1), .int .i64 ((el es 0).1.2)]) (x_loadA [.int .i64 ((el es 0).1.1), .int .i64 ((el es 0).1.2)] T.ag31 rfl (hB178.cells 0 [.int .i64 ((el es 0).1.1), .int .i64 ((el es 0).1.2)] (cells_at rfl))) ?_
      refine st_q (v := .agg #[.int .i64 ((el L f.toNat).1), .int .i64 ((el L f.toNat).2)]) (x_loadA [.int .i64 ((el L f.toNat).1), .int .i64 ((el L f.toNat).2)] T.ag31 rfl (hB174.cells 0 [.int .i64 ((el L f.toNat).1), .int .i64 ((el L f.toNat).2)] (cells_at rfl))) ?_
      refine st_q (v := .bool (decide ((el es 0).1 = (el L f.toNat)))) (x_eql2 T.eq2_31 rfl rfl) ?_
      refine st_if (p := (el es 0).1 = (el L f.toNat)) (x_move rfl) (fun h187 => ?_) (fun h187 => ?_)
      ·
        refine st_gq 3 54 rfl rfl (by decide) ?_
        refine st_q (v := .bool true) (x_move rfl) ?_
        refine st_gq 3 54 rfl rfl (by decide) ?_
        refine st_q (v := .bool true) (x_move rfl) ?_
        refine st_gq 3 54 rfl rfl (by decide) ?_
        refine st_q (v := .bool (decide ((True) ↔ (True)))) (x_eqlB Try.underlying4 rfl rfl) ?_
        refine st_q (v := .bool (decide ((True) ↔ (True)))) (x_pickT rfl rfl) ?_
        refine st_q (v := .bool (decide ((True) ↔ (True)))) (x_assign rfl) ?_
        refine st_nil ?_
        refine kn184 _ _ ?_
        refine ret ?_
        refine kr22 _ _ ?_
        refine kr18 _ _ ?_
        refine leave1 (P := Try.prog) (fn := Try.f24) (t := 6) (v := .bool (decide ((True) ↔ (True)))) rfl rfl ?_
        exact ⟨by first | rw [decide_eq_true hel] | simp, (PS.mk v es nx (.slice au L.length cu) L), ⟨hF180, hhp, hrlo, hB176, hF179, hmt⟩, hE181, fun k h => .inl h, Nat.le_succ _, Nat.le_succ _, by first | exact fun h => absurd h (by assumption) | exact fun _ => ⟨by show L.length = L.length - 1; omega, rfl⟩⟩
      ·
        exact absurd h187 (not_not_intro hroot)
    ·
      refine seqK fun Q188 kn189 kr190 ke191 => ?_
      refine region ?_
      refine st_q (v := .pointer (some ⟨w0.heap.size, 0, none⟩)) (x_field (o := 0) T.fa48_0 rfl) ?_
      refine st_q (v := .int .i64 k0) (x_load1 T.na3 rfl (hB9.one 0 rfl)) ?_
      refine st_q (v := .bool (decide (0 ≤ k0))) (x_geq rfl rfl) ?_
      refine st_if (p := 0 ≤ k0) (x_move rfl) (fun h192 => ?_) (fun h192 => ?_)
      ·
        refine st_gq 3 63 rfl rfl (by decide) ?_
        refine st_q (v := .pointer (some ⟨w0.heap.size, 0, none⟩)) (x_field (o := 0) T.fa48_0 rfl) ?_
        refine st_gq 3 63 rfl rfl (by decide) ?_
        refine st_q (v := .int .i64 k0) (x_load1 T.na3 rfl (hB9.one 0 rfl)) ?_
        refine st_gq 3 63 rfl rfl (by decide) ?_
        refine st_q (v := .bool (decide (k0 ≤ 3))) (x_leq rfl rfl) ?_
        refine st_q (v := .bool (decide (k0 ≤ 3))) (x_pickT rfl rfl) ?_
        refine st_q (v := .bool (decide (k0 ≤ 3))) (x_assign rfl) ?_
        refine st_nil ?_
        refine kn189 _ _ ?_
        refine cnd (p := k0 ≤ 3) rfl (fun h193 => ?_) (fun h193 => ?_)
        ·
          refine seqK fun Q194 kn195 kr196 ke197 => ?_
          refine region ?_
          refine st_q (v := .pointer (some ⟨hb, 0, none⟩)) (x_move rfl) ?_
          refine st_q (v := .pointer (some ⟨w0.heap.size, 2, none⟩)) (x_field (o := 0) T.fa48_2 rfl) ?_
          refine st_q (v := .agg #[.int .i64 z.1, .int .i64 z.2]) (x_loadA [.int .i64 z.1, .int .i64 z.2] T.ag31 rfl (hB9.cells 2 [.int .i64 z.1, .int .i64 z.2] (cells_at rfl))) ?_
          refine st_c (t_call [.pointer (some ⟨hb, 0, none⟩), .agg #[.int .i64 z.1, .int .i64 z.2]] T.cf26 rfl rfl) (push26 lo 20 byc T.cf20 cmp20 byc_law _ told20 hb nx v es z _ hF12 (by omega) hnx hhp) ?_
          rintro _ w198 ⟨rfl, v1, es1, hM199, hH1, hp1, hq1, hv1⟩
          refine ⟨_, rfl, ?_⟩
          have hB200 := hB10.mod hM199 (fun h => h.elim (hB10.neB hF12.blk (by decide)) (fun h => hB10.neO hF12.own (by decide) h))
          have hB201 := hB9.mod hM199 (fun h => h.elim (hB9.neB hF12.blk (by decide)) (fun h => hB9.neO hF12.own (by decide) h))
          have hF202 := hF11.mod hM199 (fun k e h => h.elim (fun h => hF12.blk.neO hF11 (by decide) (h ▸ e)) (fun h => hF11.neT hF12.own (by decide) e h))
          have hE203 : Mod (foot hb rb (PS.mk v es nx (.slice au L.length cu) L)) w0 w198 := Mod.trans' hE13 hM199 (fun i hi => .inl (hi.elim .inl (fun e => .inr (.inl e))))
          have hz204 := hE203.le
          have hs205 := hM199.size
          refine st_nil ?_
          refine kn195 _ _ ?_
          refine region ?_
          refine st_q (v := .pointer (some ⟨rb, 0, none⟩)) (x_move rfl) ?_
          refine st_q (v := .pointer (some ⟨w0.heap.size, 2, none⟩)) (x_field (o := 0) T.fa48_2 rfl) ?_
          refine st_q (v := .agg #[.int .i64 z.1, .int .i64 z.2]) (x_loadA [.int .i64 z.1, .int .i64 z.2] T.ag31 rfl (hB201.cells 2 [.int .i64 z.1, .int .i64 z.2] (cells_at rfl))) ?_
          refine st_c (t_call [.pointer (some ⟨rb, 0, none⟩), .agg #[.int .i64 z.1, .int .i64 z.2]] T.cf57 rfl rfl) (refpush57 lo rb au cu L z _ hB200 hF202 (by omega) (by omega)) ?_
          rintro _ w206 ⟨rfl, u1, hB1, hO1, hM207, hu1⟩
          refine ⟨_, rfl, ?_⟩
          have hB208 := hB201.mod hM207 (fun h => h.elim (hB201.neB hB200 (by decide)) (fun h => hB201.neO hF202 (by decide) h))
          have hF209 := hH1.mod hM207 (fun h => h.elim (fun h => hB200.neB hH1.blk (by decide) h.symm) (fun h => hH1.blk.neO hF202 (by decide) h)) (fun k e h => h.elim (fun h => hB200.neO hH1.own (by decide) (h ▸ e)) (fun h => hF202.neT hH1.own (by decide) h e))
          have hE210 : Mod (foot hb rb (PS.mk v es nx (.slice au L.length cu) L)) w0 w206 := Mod.trans' hE203 hM207 (fun i hi => .inl (hi.elim (fun e => .inr (.inr (.inl e))) (fun e => .inr (.inr (.inr e)))))
          have hz211 := hE210.le
          have hs212 := hM207.size
          obtain ⟨a1, c1, rfl, hc1, hc11⟩ := hO1.src.form
          refine st_nil ?_
          refine kn21 _ _ ?_
          refine kn17 _ _ ?_
          refine seqK fun Q213 kn214 kr215 ke216 => ?_
          refine regionD1 [5] [0, 2, 3, 4, 5, 6, 7, 8] (.one 0 (.one 2 (.one 3 (.one 4 (.one 5 (.one 6 (.one 1 (.one 7 (.one 8 .done))))))))) (by kernel_rfl) (by kernel_rfl) ?_
          intro w217 hx218 hs219
          have hB220 := hB208.ext hx218
          have hB221 := hB1.ext hx218
          have hF222 := hF209.ext hx218
          have hF223 := hO1.ext hx218
          have hE224 : Mod (foot hb rb (PS.mk v es nx (.slice au L.length cu) L)) w0 w217 := hE210.ext hx218
          have hz225 := hE224.le
          have hs226 := hx218.size
          have hS227 : Ext w217 w217 := Below.refl _ _
          refine d_q (v := .pointer (some ⟨hb, 0, none⟩)) rfl rfl (fun _ => x_move rfl) ?_
          refine d_q (v := .pointer (some ⟨rb, 0, none⟩)) rfl rfl (fun _ => x_move rfl) ?_
          refine d_q (v := .pointer (some ⟨rb, 0, none⟩)) rfl rfl (fun _ => x_nilCheck rfl) ?_
          refine d_q (v := .pointer (some ⟨rb, 0, none⟩)) rfl rfl (fun _ => x_field (o := 0) T.fa45_0 rfl) ?_
          refine d_l (v := .slice a1 ((L ++ [z]).length) c1) rfl rfl rfl (fun v229 hw228 => x_load1 T.na29 rfl ((hB221.one 0 rfl).ext hw228)) ?_
          refine d_q (v := .int .i64 (((L ++ [z]).length : Nat) : Int)) rfl rfl (fun _ => x_lenSl rfl Try.underlying29 rfl) ?_
          refine d_e (by decide) (d_c' rfl rfl (t_call [.pointer (some ⟨hb, 0, none⟩)] T.cf25 rfl rfl) (len25 lo hb (nx + 1) _ v1 es1 _ hF222) ?_)
          rintro _ w230 ⟨rfl, hx231⟩
          refine ⟨_, rfl, ?_⟩
          have hB232 := hB220.ext hx231
          have hB233 := hB221.ext hx231
          have hF234 := hF222.ext hx231
          have hF235 := hF223.ext hx231
          have hE236 : Mod (foot hb rb (PS.mk v es nx (.slice au L.length cu) L)) w0 w230 := hE224.ext hx231
          have hz237 := hE236.le
          have hs238 := hx231.size
          have hS239 := hS227.trans (hx231.mono hS227.size)
          refine ⟨fun _ => hS239, ?_⟩
          refine d_q (v := .bool (decide (es1.length = ((L ++ [z]).length)))) rfl rfl (fun _ => x_eqlN rfl rfl) ?_
          refine d_q (v := .bool (decide (es1.length = ((L ++ [z]).length)))) rfl rfl (fun _ => x_assign rfl) ?_
          refine d_done ?_
          refine kn214 _ _ ?_
          refine ret ?_
          refine leave1 (P := Try.prog) (fn := Try.f24) (t := 6) (v := .bool (decide (es1.length = ((L ++ [z]).length)))) rfl rfl ?_
          have hel1 := (hmt.push hq1).len
          refine ⟨by rw [decide_eq_true hel1], PS.mk v1 es1 (nx + 1) _ (L ++ [z]), ⟨hF234, hp1, hrlo, hB233, hF235, hmt.push hq1⟩, hE236, ?_, by simp, Nat.le_refl _, fun h => absurd h (by assumption)⟩
          rintro k (h | h | h | h)
          · exact .inl (.inl h)
          · exact hv1.elim (fun e => .inl (.inr (.inl (e ▸ h)))) (fun e => .inr (by have := e k h; omega))
          · exact .inl (.inr (.inr (.inl h)))
          · exact hu1.elim (fun e => .inl (.inr (.inr (.inr (e ▸ h))))) (fun e => .inr (by have := e k h; omega))
        ·
          refine skip ?_
          refine kn21 _ _ ?_
          refine kn17 _ _ ?_
          refine seqK fun Q240 kn241 kr242 ke243 => ?_
          refine regionD1 [5] [0, 2, 3, 4, 5, 6, 7, 8] (.one 0 (.one 2 (.one 3 (.one 4 (.one 5 (.one 6 (.one 1 (.one 7 (.one 8 .done))))))))) (by kernel_rfl) (by kernel_rfl) ?_
          intro w244 hx245 hs246
          have hB247 := hB10.ext hx245
          have hB248 := hB9.ext hx245
          have hF249 := hF11.ext hx245
          have hF250 := hF12.ext hx245
          have hE251 : Mod (foot hb rb (PS.mk v es nx (.slice au L.length cu) L)) w0 w244 := hE13.ext hx245
          have hz252 := hE251.le
          have hs253 := hx245.size
          have hS254 : Ext w244 w244 := Below.refl _ _
          refine d_q (v := .pointer (some ⟨hb, 0, none⟩)) rfl rfl (fun _ => x_move rfl) ?_
          refine d_q (v := .pointer (some ⟨rb, 0, none⟩)) rfl rfl (fun _ => x_move rfl) ?_
          refine d_q (v := .pointer (some ⟨rb, 0, none⟩)) rfl rfl (fun _ => x_nilCheck rfl) ?_
          refine d_q (v := .pointer (some ⟨rb, 0, none⟩)) rfl rfl (fun _ => x_field (o := 0) T.fa45_0 rfl) ?_
          refine d_l (v := .slice au L.length cu) rfl rfl rfl (fun v256 hw255 => x_load1 T.na29 rfl ((hB247.one 0 rfl).ext hw255)) ?_
          refine d_q (v := .int .i64 ((L.length : Nat) : Int)) rfl rfl (fun _ => x_lenSl rfl Try.underlying29 rfl) ?_
          refine d_e (by decide) (d_c' rfl rfl (t_call [.pointer (some ⟨hb, 0, none⟩)] T.cf25 rfl rfl) (len25 lo hb nx _ v es _ hF250) ?_)
          rintro _ w257 ⟨rfl, hx258⟩
          refine ⟨_, rfl, ?_⟩
          have hB259 := hB247.ext hx258
          have hB260 := hB248.ext hx258
          have hF261 := hF249.ext hx258
          have hF262 := hF250.ext hx258
          have hE263 : Mod (foot hb rb (PS.mk v es nx (.slice au L.length cu) L)) w0 w257 := hE251.ext hx258
          have hz264 := hE263.le
          have hs265 := hx258.size
          have hS266 := hS254.trans (hx258.mono hS254.size)
          refine ⟨fun _ => hS266, ?_⟩
          refine d_q (v := .bool (decide (es.length = L.length))) rfl rfl (fun _ => x_eqlN rfl rfl) ?_
          refine d_q (v := .bool (decide (es.length = L.length))) rfl rfl (fun _ => x_assign rfl) ?_
          refine d_done ?_
          refine kn241 _ _ ?_
          refine ret ?_
          refine leave1 (P := Try.prog) (fn := Try.f24) (t := 6) (v := .bool (decide (es.length = L.length))) rfl rfl ?_
          exact ⟨by first | rw [decide_eq_true hel] | simp, (PS.mk v es nx (.slice au L.length cu) L), ⟨hF262, hhp, hrlo, hB259, hF261, hmt⟩, hE263, fun k h => .inl h, Nat.le_succ _, Nat.le_succ _, by first | exact fun h => absurd h (by assumption) | exact fun _ => ⟨by show L.length = L.length - 1; omega, rfl⟩⟩
      ·
        refine st_gn 3 63 rfl rfl (by decide) rfl ?_
        refine st_gn 3 63 rfl rfl (by decide) rfl ?_
        refine st_gn 3 63 rfl rfl (by decide) rfl ?_
        refine st_q (v := .bool false) (x_pickF rfl rfl) ?_
        refine st_q (v := .bool false) (x_assign rfl) ?_
        refine st_nil ?_
        refine kn189 _ _ ?_
        refine cndF rfl ?_
        refine skip ?_
        refine kn21 _ _ ?_
        refine kn17 _ _ ?_
        refine seqK fun Q267 kn268 kr269 ke270 => ?_
        refine regionD1 [5] [0, 2, 3, 4, 5, 6, 7, 8] (.one 0 (.one 2 (.one 3 (.one 4 (.one 5 (.one 6 (.one 1 (.one 7 (.one 8 .done))))))))) (by kernel_rfl) (by kernel_rfl) ?_
        intro w271 hx272 hs273
        have hB274 := hB10.ext hx272
        have hB275 := hB9.ext hx272
        have hF276 := hF11.ext hx272
        have hF277 := hF12.ext hx272
        have hE278 : Mod (foot hb rb (PS.mk v es nx (.slice au L.length cu) L)) w0 w271 := hE13.ext hx272
        have hz279 := hE278.le
        have hs280 := hx272.size
        have hS281 : Ext w271 w271 := Below.refl _ _
        refine d_q (v := .pointer (some ⟨hb, 0, none⟩)) rfl rfl (fun _ => x_move rfl) ?_
        refine d_q (v := .pointer (some ⟨rb, 0, none⟩)) rfl rfl (fun _ => x_move rfl) ?_
        refine d_q (v := .pointer (some ⟨rb, 0, none⟩)) rfl rfl (fun _ => x_nilCheck rfl) ?_
        refine d_q (v := .pointer (some ⟨rb, 0, none⟩)) rfl rfl (fun _ => x_field (o := 0) T.fa45_0 rfl) ?_
        refine d_l (v := .slice au L.length cu) rfl rfl rfl (fun v283 hw282 => x_load1 T.na29 rfl ((hB274.one 0 rfl).ext hw282)) ?_
        refine d_q (v := .int .i64 ((L.length : Nat) : Int)) rfl rfl (fun _ => x_lenSl rfl Try.underlying29 rfl) ?_
        refine d_e (by decide) (d_c' rfl rfl (t_call [.pointer (some ⟨hb, 0, none⟩)] T.cf25 rfl rfl) (len25 lo hb nx _ v es _ hF277) ?_)
        rintro _ w284 ⟨rfl, hx285⟩
        refine ⟨_, rfl, ?_⟩
        have hB286 := hB274.ext hx285
        have hB287 := hB275.ext hx285
        have hF288 := hF276.ext hx285
        have hF289 := hF277.ext hx285
        have hE290 : Mod (foot hb rb (PS.mk v es nx (.slice au L.length cu) L)) w0 w284 := hE278.ext hx285
        have hz291 := hE290.le
        have hs292 := hx285.size
        have hS293 := hS281.trans (hx285.mono hS281.size)
        refine ⟨fun _ => hS293, ?_⟩
        refine d_q (v := .bool (decide (es.length = L.length))) rfl rfl (fun _ => x_eqlN rfl rfl) ?_
        refine d_q (v := .bool (decide (es.length = L.length))) rfl rfl (fun _ => x_assign rfl) ?_
        refine d_done ?_
        refine kn268 _ _ ?_
        refine ret ?_
        refine leave1 (P := Try.prog) (fn := Try.f24) (t := 6) (v := .bool (decide (es.length = L.length))) rfl rfl ?_
        exact ⟨by first | rw [decide_eq_true hel] | simp, (PS.mk v es nx (.slice au L.length cu) L), ⟨hF289, hhp, hrlo, hB286, hF288, hmt⟩, hE290, fun k h => .inl h, Nat.le_succ _, Nat.le_succ _, by first | exact fun h => absurd h (by assumption) | exact fun _ => ⟨by show L.length = L.length - 1; omega, rfl⟩⟩

theorem does24 (lo hb rb : Nat) (X : PS) (k0 n0 : Int) (z : Int × Int) (w0 : World) (hP : PairR w0.heap lo hb rb X) (hlen : X.L.length ≤ 4398046511000) (hnx : X.nx ≤ 4611686018427387904) (hlo : lo ≤ w0.heap.size) : Calls Try.prog 24 #[.pointer (some ⟨hb, 0, none⟩), .pointer (some ⟨rb, 0, none⟩), .agg #[.int .i64 k0, .int .i64 n0, .int .i64 z.1, .int .i64 z.2]] w0 fun e w' => e = .returned (.bool true) ∧ ∃ X', PairR w'.heap lo hb rb X' ∧ Mod (foot hb rb X) w0 w' ∧ (∀ k, foot hb rb X' k → foot hb rb X k ∨ w0.heap.size ≤ k) ∧ X'.L.length ≤ X.L.length + 1 ∧ X'.nx ≤ X.nx + 1 ∧ (k0 = 4 → X'.L.length = X.L.length - 1 ∧ X'.nx = X.nx) := by
  obtain ⟨v, es, nx, u, L⟩ := X
  obtain ⟨hH, hhp, hrlo, hB, hO, hmt⟩ := hP
  dsimp only at *
  obtain ⟨au, cu, rfl, _, _⟩ := hO.src.form
  rcases Nat.eq_zero_or_pos L.length with hz | hz
  · exact does24_0 lo hb rb v es nx au cu L k0 n0 z w0 hH hhp hrlo hB hO hmt hz hlen hnx hlo
  · exact does24_1 lo hb rb v es nx au cu L k0 n0 z w0 hH hhp hrlo hB hO hmt hz hlen hnx hlo
end Go.Proofs.Ytgfolockecjlnaa
