import Derived.Test.YtgfolockecjlnaaPairs
namespace Go.Proofs.Ytgfolockecjlnaa
open Go.RowKit Go.Eng Go.OrdPure Go.HeapPure
theorem T.fa45_0 : FA Try.prog 45 0 0 := fun _ _ => by kernel_rfl
theorem T.na29 : NA Try.prog 29 := fun _ => by kernel_rfl
theorem T.cf69 : CF Try.prog 69 := fun _ _ => by kernel_rfl
theorem T.sz29 : SZ Try.prog 29 1 := fun _ => by kernel_rfl

set_option maxHeartbeats 4000000 in
theorem first69 (lo rb : Nat) (au : Option Addr) (cu : Nat) (L : List (Int × Int)) (w0 : World) (hB : Blk w0.heap rb [.slice au L.length cu] 45) (hO : Own w0.heap lo 31 2 (.slice au L.length cu) L.length (flat enT L)) (hn : L.length ≤ 8796093021952) : Calls Try.prog 69 #[.pointer (some ⟨rb, 0, none⟩)] w0 fun e w' => ∃ f, e = .returned (.int .i64 f) ∧ FI L L.length f ∧ Ext w0 w' := by
  have hE0 : Below w0.heap.size w0 w0 := Below.refl _ _
  have hz0 := hE0.le
  have hrb := hB.lt
  have hne := hB.neO hO (by decide)
  obtain ⟨_, hcu, hcu1⟩ := hO.src.capl
  refine enter Try.func69 rfl 37 Try.ntmps69 rfl ?_
  refine seqK fun Q1 kn2 kr3 ke4 => ?_
  refine region ?_
  refine st_q (v := .int .i64 ((0 : Nat) : Int)) (x_assign rfl) ?_
  refine st_nil ?_
  refine kn2 _ _ ?_
  refine seqK fun Q5 kn6 kr7 ke8 => ?_
  refine region ?_
  refine st_q (v := .int .i64 (-1)) (x_assign rfl) ?_
  refine st_nil ?_
  refine kn6 _ _ ?_
  refine seqK fun Q9 kn10 kr11 ke12 => ?_
  refine seqK fun Q13 kn14 kr15 ke16 => ?_
  refine region ?_
  refine st_q (v := .int .i64 ((0 : Nat) : Int)) (x_assign rfl) ?_
  refine st_nil ?_
  refine kn14 _ _ ?_
  refine blockK fun Q17 kn18 kr19 kx20 kb21 => ?_
  refine loopK (α := Nat × Int) (fun x => [(0, .pointer (some ⟨rb, 0, none⟩)), (3, .int .i64 x.2), (4, .int .i64 ((x.1 : Nat) : Int))]) (fun x w22 => Ext w0 w22 ∧ x.1 ≤ L.length ∧ FI L x.1 x.2) (fun x => L.length - x.1) (0, (-1)) ⟨rfl, rfl, rfl, trivial⟩ ?_ ?_
  ·
    refine ⟨Below.refl _ _, ?_⟩
    try dsimp only
    exact ⟨Nat.zero_le _, FI.start⟩
  ·
    rintro τ23 ⟨i, f⟩ w24 ⟨hx25, ⟨hi, hI⟩⟩
    try dsimp only at hi hI
    have hB26 := hB.ext hx25
    have hF27 := hO.ext hx25
    have hE28 : Below w0.heap.size w0 w24 := hx25.e hE0 (Nat.le_refl _)
    have hz29 := hE28.le
    have hs30 := hx25.size
    intro Q31 kn32 kr33 ke34
    have hft : ¬ f < 0 → f.toNat < L.length := fun h => by
      have h0 : 0 < i := by rcases Nat.eq_zero_or_pos i with e | e; (have := hI.1 e; omega); exact e
      have := (hI.2 h0).2.1; omega
    refine seqK fun Q35 kn36 kr37 ke38 => ?_
    refine seqK fun Q39 kn40 kr41 ke42 => ?_
    refine region ?_
    refine st_q (v := .int .i64 ((i : Nat) : Int)) (x_move rfl) ?_
    refine st_q (v := .pointer (some ⟨rb, 0, none⟩)) (x_move rfl) ?_
    refine st_q (v := .pointer (some ⟨rb, 0, none⟩)) (x_nilCheck rfl) ?_
    refine st_q (v := .pointer (some ⟨rb, 0, none⟩)) (x_field (o := 0) T.fa45_0 rfl) ?_
    refine st_q (v := .slice au L.length cu) (x_load1 T.na29 rfl (hB26.one 0 rfl)) ?_
    refine st_q (v := .int .i64 ((L.length : Nat) : Int)) (x_lenSl rfl Try.underlying29 rfl) ?_
    refine st_q (v := .bool (decide (i < L.length))) (x_lssN rfl rfl) ?_
    refine st_nil ?_
    refine kn40 _ _ ?_
    refine cnd (p := i < L.length) rfl (fun h43 => ?_) (fun h43 => ?_)
    ·
      refine skip ?_
      refine kn36 _ _ ?_
      refine seqK fun Q44 kn45 kr46 ke47 => ?_
      refine blockK fun Q48 kn49 kr50 kx51 kb52 => ?_
      refine seqK fun Q53 kn54 kr55 ke56 => ?_
      refine regionD1 [6, 10, 14, 18] [0, 1, 2, 3, 4, 5, 6, 7, 8, 9, 10, 11, 12, 13, 14, 15, 16, 17, 18, 19, 20] (.one 0 (.one 1 (.one 2 (.one 3 (.one 4 (.one 5 (.one 6 (.one 7 (.one 8 (.one 9 (.one 10 (.one 11 (.one 12 (.one 13 (.one 14 (.one 15 (.one 16 (.one 17 (.one 18 (.one 19 (.one 20 .done))))))))))))))))))))) (by kernel_rfl) (by kernel_rfl) ?_
      intro w57 hx58 hs59
      have hB60 := hB26.ext hx58
      have hF61 := hF27.ext hx58
      have hF62 := hx58.e hx25 (Nat.le_refl _)
      have hE63 : Below w0.heap.size w0 w57 := hx58.e hE28 (Nat.le_refl _)
      have hz64 := hE63.le
      have hs65 := hx58.size
      have hS66 : Ext w57 w57 := Below.refl _ _
      refine d_q (v := .int .i64 f) rfl rfl (fun _ => x_move rfl) ?_
      refine d_q (v := .bool (decide (f < 0))) rfl rfl (fun _ => x_lss rfl rfl) ?_
      refine d_if rfl rfl (p := f < 0) (fun _ => x_move rfl) (fun h67 => ?_) (fun h67 => ?_)
      ·
        refine d_gn (j := 2) (t := 16) rfl rfl rfl rfl (by decide) rfl ?_
        refine d_gn (j := 2) (t := 16) rfl rfl rfl rfl (by decide) rfl ?_
        refine d_gn (j := 2) (t := 16) rfl rfl rfl rfl (by decide) rfl ?_
        refine d_gn (j := 2) (t := 16) rfl rfl rfl rfl (by decide) rfl ?_
        refine d_gn (j := 2) (t := 16) rfl rfl rfl rfl (by decide) rfl ?_
        refine d_gn (j := 2) (t := 16) rfl rfl rfl rfl (by decide) rfl ?_
        refine d_gn (j := 2) (t := 16) rfl rfl rfl rfl (by decide) rfl ?_
        refine d_gn (j := 2) (t := 16) rfl rfl rfl rfl (by decide) rfl ?_
        refine d_gn (j := 2) (t := 16) rfl rfl rfl rfl (by decide) rfl ?_
        refine d_gn (j := 2) (t := 16) rfl rfl rfl rfl (by decide) rfl ?_
        refine d_gn (j := 2) (t := 16) rfl rfl rfl rfl (by decide) rfl ?_
        refine d_gn (j := 2) (t := 16) rfl rfl rfl rfl (by decide) rfl ?_
        refine d_gn (j := 2) (t := 16) rfl rfl rfl rfl (by decide) rfl ?_
        refine d_gn (j := 2) (t := 16) rfl rfl rfl rfl (by decide) rfl ?_
        refine d_gn (j := 2) (t := 16) rfl rfl rfl rfl (by decide) rfl ?_
        refine d_gn (j := 2) (t := 16) rfl rfl rfl rfl (by decide) rfl ?_
        refine d_gn (j := 2) (t := 16) rfl rfl rfl rfl (by decide) rfl ?_
        refine d_q (v := .bool true) rfl rfl (fun _ => x_pickT rfl rfl) ?_
        refine d_done ?_
        refine kn54 _ _ ?_
        refine cndT rfl ?_
        refine region ?_
        refine st_q (v := .int .i64 ((i : Nat) : Int)) (x_move rfl) ?_
        refine st_q (v := .int .i64 ((i : Nat) : Int)) (x_assign rfl) ?_
        refine st_nil ?_
        refine kn49 _ _ ?_
        refine kn45 _ _ ?_
        refine region ?_
        refine st_q (v := .int .i64 ((i : Nat) : Int)) (x_move rfl) ?_
        refine st_q (v := .int .i64 (((i + 1) : Nat) : Int)) (x_addN rfl rfl (by omega)) ?_
        refine st_q (v := .int .i64 (((i + 1) : Nat) : Int)) (x_assign rfl) ?_
        refine st_nil ?_
        refine kn32 _ ((i + 1), ((i : Nat) : Int)) _ ⟨rfl, rfl, rfl, trivial⟩ ⟨hF62, ?_⟩ ?_
        ·
          try dsimp only
          exact ⟨by omega, hI.take (by first | exact .inl (by omega) | exact .inr (by assumption))⟩
        ·
          (try dsimp only); omega
      ·
        refine d_gq (v := .pointer (some ⟨rb, 0, none⟩)) (j := 2) (t := 16) rfl rfl rfl rfl (by decide) (fun _ => x_move rfl) ?_
        refine d_gq (v := .pointer (some ⟨rb, 0, none⟩)) (j := 2) (t := 16) rfl rfl rfl rfl (by decide) (fun _ => x_nilCheck rfl) ?_
        refine d_gq (v := .pointer (some ⟨rb, 0, none⟩)) (j := 2) (t := 16) rfl rfl rfl rfl (by decide) (fun _ => x_field (o := 0) T.fa45_0 rfl) ?_
        refine d_gl (v := .slice au L.length cu) (j := 2) (t := 16) rfl rfl rfl rfl rfl (by decide) (fun v69 hw68 => x_load1 T.na29 rfl ((hB60.one 0 rfl).ext hw68)) ?_
        refine d_gq (v := .int .i64 ((i : Nat) : Int)) (j := 2) (t := 16) rfl rfl rfl rfl (by decide) (fun _ => x_move rfl) ?_
        obtain ⟨b70, o71, ha72, hc73⟩ := hF61.src.at (by omega)
        refine d_gq (v := .pointer (some ⟨b70, o71 + i * 2, none⟩)) (j := 2) (t := 16) rfl rfl rfl rfl (by decide) (fun _ => x_index' T.sl29 rfl ha72 rfl (by omega)) ?_
        refine d_gq (v := .pointer (some ⟨b70, o71 + i * 2, none⟩)) (j := 2) (t := 16) rfl rfl rfl rfl (by decide) (fun _ => x_field (o := o71 + i * 2) T.fa31_0 rfl) ?_
        refine d_gl (v := .int .i64 ((el L i).1)) (j := 2) (t := 16) rfl rfl rfl rfl rfl (by decide) (fun v75 hw74 => x_load1 T.na3 rfl (((hc73.elem enT_len (i := i) (by omega)).fld 0 rfl).ext hw74)) ?_
        refine d_gq (v := .pointer (some ⟨rb, 0, none⟩)) (j := 2) (t := 16) rfl rfl rfl rfl (by decide) (fun _ => x_move rfl) ?_
        refine d_gq (v := .pointer (some ⟨rb, 0, none⟩)) (j := 2) (t := 16) rfl rfl rfl rfl (by decide) (fun _ => x_nilCheck rfl) ?_
        refine d_gq (v := .pointer (some ⟨rb, 0, none⟩)) (j := 2) (t := 16) rfl rfl rfl rfl (by decide) (fun _ => x_field (o := 0) T.fa45_0 rfl) ?_
        refine d_gl (v := .slice au L.length cu) (j := 2) (t := 16) rfl rfl rfl rfl rfl (by decide) (fun v77 hw76 => x_load1 T.na29 rfl ((hB60.one 0 rfl).ext hw76)) ?_
        have hfl := hft (by assumption)
        refine d_gq (v := .int .i64 ((f.toNat : Nat) : Int)) (j := 2) (t := 16) rfl rfl rfl rfl (by decide) (fun _ => x_move (by show Value.int .i64 f = _; rw [Int.toNat_of_nonneg (by omega)])) ?_
        obtain ⟨b78, o79, ha80, hc81⟩ := hF61.src.at (by omega)
        refine d_gq (v := .pointer (some ⟨b78, o79 + f.toNat * 2, none⟩)) (j := 2) (t := 16) rfl rfl rfl rfl (by decide) (fun _ => x_index' T.sl29 rfl ha80 rfl (by omega)) ?_
        refine d_gq (v := .pointer (some ⟨b78, o79 + f.toNat * 2, none⟩)) (j := 2) (t := 16) rfl rfl rfl rfl (by decide) (fun _ => x_field (o := o79 + f.toNat * 2) T.fa31_0 rfl) ?_
        refine d_gl (v := .int .i64 ((el L f.toNat).1)) (j := 2) (t := 16) rfl rfl rfl rfl rfl (by decide) (fun v83 hw82 => x_load1 T.na3 rfl (((hc81.elem enT_len (i := f.toNat) (by omega)).fld 0 rfl).ext hw82)) ?_
        refine d_gq (v := .bool (decide (((el L i).1) < ((el L f.toNat).1)))) (j := 2) (t := 16) rfl rfl rfl rfl (by decide) (fun _ => x_lss rfl rfl) ?_
        refine d_q (v := .bool (decide (((el L i).1) < ((el L f.toNat).1)))) rfl rfl (fun _ => x_pickF rfl rfl) ?_
        refine d_done ?_
        refine kn54 _ _ ?_
        refine cnd (p := ((el L i).1) < ((el L f.toNat).1)) rfl (fun h84 => ?_) (fun h84 => ?_)
        ·
          refine region ?_
          refine st_q (v := .int .i64 ((i : Nat) : Int)) (x_move rfl) ?_
          refine st_q (v := .int .i64 ((i : Nat) : Int)) (x_assign rfl) ?_
          refine st_nil ?_
          refine kn49 _ _ ?_
          refine kn45 _ _ ?_
          refine region ?_
          refine st_q (v := .int .i64 ((i : Nat) : Int)) (x_move rfl) ?_
          refine st_q (v := .int .i64 (((i + 1) : Nat) : Int)) (x_addN rfl rfl (by omega)) ?_
          refine st_q (v := .int .i64 (((i + 1) : Nat) : Int)) (x_assign rfl) ?_
          refine st_nil ?_
          refine kn32 _ ((i + 1), ((i : Nat) : Int)) _ ⟨rfl, rfl, rfl, trivial⟩ ⟨hF62, ?_⟩ ?_
          ·
            try dsimp only
            exact ⟨by omega, hI.take (by first | exact .inl (by omega) | exact .inr (by assumption))⟩
          ·
            (try dsimp only); omega
        ·
          refine skip ?_
          refine kn49 _ _ ?_
          refine kn45 _ _ ?_
          refine region ?_
          refine st_q (v := .int .i64 ((i : Nat) : Int)) (x_move rfl) ?_
          refine st_q (v := .int .i64 (((i + 1) : Nat) : Int)) (x_addN rfl rfl (by omega)) ?_
          refine st_q (v := .int .i64 (((i + 1) : Nat) : Int)) (x_assign rfl) ?_
          refine st_nil ?_
          refine kn32 _ ((i + 1), f) _ ⟨rfl, rfl, rfl, trivial⟩ ⟨hF62, ?_⟩ ?_
          ·
            try dsimp only
            exact ⟨by omega, hI.keep (by omega) (by assumption)⟩
          ·
            (try dsimp only); omega
    ·
      refine exit ?_
      refine ke38 _ _ _ ?_
      refine ke34 _ _ _ ?_
      refine kb21 _ _ ?_
      refine kn10 _ _ ?_
      refine seqK fun Q85 kn86 kr87 ke88 => ?_
      refine region ?_
      refine st_q (v := .int .i64 f) (x_move rfl) ?_
      refine st_q (v := .int .i64 f) (x_assign rfl) ?_
      refine st_nil ?_
      refine kn86 _ _ ?_
      refine ret ?_
      refine leave1 (P := Try.prog) (fn := Try.f69) (t := 2) (v := .int .i64 f) rfl rfl ?_
      obtain rfl : i = L.length := by omega
      exact ⟨_, rfl, hI, hE28⟩

set_option maxHeartbeats 4000000 in
theorem refpop55_0 (lo rb : Nat) (au : Option Addr) (cu : Nat) (L : List (Int × Int)) (w0 : World) (hB : Blk w0.heap rb [.slice au L.length cu] 45) (hO : Own w0.heap lo 31 2 (.slice au L.length cu) L.length (flat enT L)) (hn : L.length ≤ 8796093021952) (hz : L.length = 0) : Calls Try.prog 55 #[.pointer (some ⟨rb, 0, none⟩)] w0 fun e w' => e = .returned (.tuple #[.agg #[.int .i64 ((0 : Nat) : Int), .int .i64 ((0 : Nat) : Int)], .bool false]) ∧ Ext w0 w' := by
  have hE0 : Below w0.heap.size w0 w0 := Below.refl _ _
  have hz0 := hE0.le
  have hrb := hB.lt
  have hne := hB.neO hO (by decide)
  obtain ⟨_, hcu, hcu1⟩ := hO.src.capl
  refine enter Try.func55 rfl 47 Try.ntmps55 rfl ?_
  refine seqK fun Q1 kn2 kr3 ke4 => ?_
  refine region ?_
  refine st_e (e_alloc T.zv31 ?_)
  intro w5 hA6
  have hx7 := hA6.ext
  have hs8 := hA6.size
  have hB9 : Blk w5.heap w0.heap.size [.int .i64 ((0 : Nat) : Int), .int .i64 ((0 : Nat) : Int)] 31 := hA6.new
  have hB10 := hB.ext hx7
  have hF11 := hO.ext hx7
  have hE12 : Below w0.heap.size w0 w5 := hx7.e hE0 (Nat.le_refl _)
  have hz13 := hE12.le
  have hs14 := hx7.size
  refine st_q (v := .bool false) (x_assign rfl) ?_
  refine st_nil ?_
  refine kn2 _ _ ?_
  refine seqK fun Q15 kn16 kr17 ke18 => ?_
  refine region ?_
  refine st_q (v := .pointer (some ⟨rb, 0, none⟩)) (x_move rfl) ?_
  refine st_c (t_call [.pointer (some ⟨rb, 0, none⟩)] T.cf69 rfl rfl) (first69 lo rb au cu L _ hB10 hF11 hn) ?_
  rintro _ w19 ⟨f, rfl, hF, hx20⟩
  refine ⟨_, rfl, ?_⟩
  have hB21 := hB10.ext hx20
  have hB22 := hB9.ext hx20
  have hF23 := hF11.ext hx20
  have hE24 : Below w0.heap.size w0 w19 := hx20.e hE12 (Nat.le_refl _)
  have hz25 := hE24.le
  have hs26 := hx20.size
  have hF0 : L.length = 0 → f = -1 := hF.1
  have hF1 : 0 < L.length → 0 ≤ f ∧ f.toNat < L.length := fun h => ⟨(hF.2 h).1, (hF.2 h).2.1⟩
  have hf := hF0 hz
  refine st_q (v := .int .i64 f) (x_assign rfl) ?_
  refine st_nil ?_
  refine kn16 _ _ ?_
  refine seqK fun Q27 kn28 kr29 ke30 => ?_
  refine seqK fun Q31 kn32 kr33 ke34 => ?_
  refine region ?_
  refine st_q (v := .int .i64 f) (x_move rfl) ?_
  refine st_q (v := .bool (decide (f < 0))) (x_lss rfl rfl) ?_
  refine st_nil ?_
  refine kn32 _ _ ?_
  refine cnd (p := f < 0) rfl (fun h35 => ?_) (fun h35 => ?_)
  ·
    refine seqK fun Q36 kn37 kr38 ke39 => ?_
    refine region ?_
    refine st_q (v := .agg #[.int .i64 ((0 : Nat) : Int), .int .i64 ((0 : Nat) : Int)]) (x_build (fun _ => by kernel_rfl)) ?_
    refine st_s (e_st (v := .agg #[.int .i64 ((0 : Nat) : Int), .int .i64 ((0 : Nat) : Int)]) T.sz31 rfl rfl hB22 (by simp [Value.cells]) (by rfl) ?_)
    intro w40 hP41
    have hB42 : Blk w40.heap w0.heap.size [.int .i64 ((0 : Nat) : Int), .int .i64 ((0 : Nat) : Int)] 31 := hP41.new
    have hs43 := hP41.size
    have hB44 := hB21.pt hP41 (by omega)
    have hF45 := hF23.pt hP41 (by first | exact hB22.neO hF23 (by decide) | (intro e; first | exact hne e | (have := (hO.lt e).2; omega)))
    have hE46 : Below w0.heap.size w0 w40 := hP41.below hE24 (by omega)
    have hz47 := hE46.le
    refine st_q (v := .bool false) (x_assign rfl) ?_
    refine st_nil ?_
    refine kn37 _ _ ?_
    refine ret ?_
    refine kr29 _ _ ?_
    refine leaveCT (P := Try.prog) (fn := Try.f55) (t := 2) (u := 3) (T := 31) (b := w0.heap.size) (o := 0) (cs := [.int .i64 ((0 : Nat) : Int), .int .i64 ((0 : Nat) : Int)]) (v := .bool false) rfl T.ag31 rfl (hB42.cells 0 [.int .i64 ((0 : Nat) : Int), .int .i64 ((0 : Nat) : Int)] (cells_at rfl)) rfl ?_
    exact ⟨rfl, hE46⟩
  ·
    exact absurd h35 (by omega)

set_option maxHeartbeats 4000000 in
theorem refpop55_1 (lo rb : Nat) (au : Option Addr) (cu : Nat) (L : List (Int × Int)) (w0 : World) (hB : Blk w0.heap rb [.slice au L.length cu] 45) (hO : Own w0.heap lo 31 2 (.slice au L.length cu) L.length (flat enT L)) (hn : L.length ≤ 8796093021952) (hz : 0 < L.length) : Calls Try.prog 55 #[.pointer (some ⟨rb, 0, none⟩)] w0 fun e w' => ∃ f, e = .returned (.tuple #[.agg (enT (el L f.toNat)).toArray, .bool true]) ∧ FI L L.length f ∧ ∃ u', Blk w'.heap rb [u'] 45 ∧ Own w'.heap w0.heap.size 31 2 u' (L.eraseIdx f.toNat).length (flat enT (L.eraseIdx f.toNat)) ∧ Mod (fun k => k = rb) w0 w' ∧ ∀ k, u'.ownBlock = some k → w0.heap.size ≤ k := by
  have hE0 : Mod (fun k => k = rb) w0 w0 := Mod.refl _ _
  have hz0 := hE0.le
  have hrb := hB.lt
  have hne := hB.neO hO (by decide)
  obtain ⟨_, hcu, hcu1⟩ := hO.src.capl
  refine enter Try.func55 rfl 47 Try.ntmps55 rfl ?_
  refine seqK fun Q1 kn2 kr3 ke4 => ?_
  refine region ?_
  refine st_e (e_alloc T.zv31 ?_)
  intro w5 hA6
  have hx7 := hA6.ext
  have hs8 := hA6.size
  have hB9 : Blk w5.heap w0.heap.size [.int .i64 ((0 : Nat) : Int), .int .i64 ((0 : Nat) : Int)] 31 := hA6.new
  have hB10 := hB.ext hx7
  have hF11 := hO.ext hx7
  have hE12 : Mod (fun k => k = rb) w0 w5 := hE0.ext hx7
  have hz13 := hE12.le
  have hs14 := hx7.size
  refine st_q (v := .bool false) (x_assign rfl) ?_
  refine st_nil ?_
  refine kn2 _ _ ?_
  refine seqK fun Q15 kn16 kr17 ke18 => ?_
  refine region ?_
  refine st_q (v := .pointer (some ⟨rb, 0, none⟩)) (x_move rfl) ?_
  refine st_c (t_call [.pointer (some ⟨rb, 0, none⟩)] T.cf69 rfl rfl) (first69 lo rb au cu L _ hB10 hF11 hn) ?_
  rintro _ w19 ⟨f, rfl, hF, hx20⟩
  refine ⟨_, rfl, ?_⟩
  have hB21 := hB10.ext hx20
  have hB22 := hB9.ext hx20
  have hF23 := hF11.ext hx20
  have hE24 : Mod (fun k => k = rb) w0 w19 := hE12.ext hx20
  have hz25 := hE24.le
  have hs26 := hx20.size
  have hF0 : L.length = 0 → f = -1 := hF.1
  have hF1 : 0 < L.length → 0 ≤ f ∧ f.toNat < L.length := fun h => ⟨(hF.2 h).1, (hF.2 h).2.1⟩
  obtain ⟨hf, hf1⟩ := hF1 hz
  refine st_q (v := .int .i64 f) (x_assign rfl) ?_
  refine st_nil ?_
  refine kn16 _ _ ?_
  refine seqK fun Q27 kn28 kr29 ke30 => ?_
  refine seqK fun Q31 kn32 kr33 ke34 => ?_
  refine region ?_
  refine st_q (v := .int .i64 f) (x_move rfl) ?_
  refine st_q (v := .bool (decide (f < 0))) (x_lss rfl rfl) ?_
  refine st_nil ?_
  refine kn32 _ _ ?_
  refine cnd (p := f < 0) rfl (fun h35 => ?_) (fun h35 => ?_)
  ·
    exact absurd h35 (by omega)
  ·
    refine skip ?_
    refine kn28 _ _ ?_
    refine seqK fun Q36 kn37 kr38 ke39 => ?_
    refine region ?_
    refine st_q (v := .pointer (some ⟨rb, 0, none⟩)) (x_move rfl) ?_
    refine st_q (v := .pointer (some ⟨rb, 0, none⟩)) (x_nilCheck rfl) ?_
    refine st_q (v := .pointer (some ⟨rb, 0, none⟩)) (x_field (o := 0) T.fa45_0 rfl) ?_
    refine st_q (v := .slice au L.length cu) (x_load1 T.na29 rfl (hB21.one 0 rfl)) ?_
    refine st_q (v := .int .i64 ((f.toNat : Nat) : Int)) (x_move (by show Value.int .i64 f = _; rw [Int.toNat_of_nonneg (by omega)])) ?_
    obtain ⟨b40, o41, ha42, hc43⟩ := hF23.src.at (by omega)
    refine st_q (v := .pointer (some ⟨b40, o41 + f.toNat * 2, none⟩)) (x_index' T.sl29 rfl ha42 rfl (by omega)) ?_
    refine st_q (v := .agg #[.int .i64 ((el L f.toNat).1), .int .i64 ((el L f.toNat).2)]) (x_loadA [.int .i64 ((el L f.toNat).1), .int .i64 ((el L f.toNat).2)] T.ag31 rfl (hc43.elem enT_len (i := f.toNat) (by omega))) ?_
    refine st_e (e_alloc T.zv31 ?_)
    intro w44 hA45
    have hx46 := hA45.ext
    have hs47 := hA45.size
    have hB48 : Blk w44.heap w19.heap.size [.int .i64 ((0 : Nat) : Int), .int .i64 ((0 : Nat) : Int)] 31 := hA45.new
    have hB49 := hB21.ext hx46
    have hB50 := hB22.ext hx46
    have hF51 := hF23.ext hx46
    have hF52 := hc43.ext hx46
    have hE53 : Mod (fun k => k = rb) w0 w44 := hE24.ext hx46
    have hz54 := hE53.le
    have hs55 := hx46.size
    refine st_s (e_st (v := .agg #[.int .i64 ((el L f.toNat).1), .int .i64 ((el L f.toNat).2)]) T.sz31 rfl rfl hB48 (by simp [Value.cells]) (by rfl) ?_)
    intro w56 hP57
    have hB58 : Blk w56.heap w19.heap.size [.int .i64 ((el L f.toNat).1), .int .i64 ((el L f.toNat).2)] 31 := hP57.new
    have hs59 := hP57.size
    have hB60 := hB49.pt hP57 (by omega)
    have hB61 := hB50.pt hP57 (by omega)
    have hF62 := hF51.pt hP57 (by first | exact hB48.neO hF51 (by decide) | (intro e; first | exact hne e | (have := (hO.lt e).2; omega)))
    have hE64 : Mod (fun k => k = rb) w0 w56 := hE53.pt hP57 (.inr (by omega))
    have hz65 := hE64.le
    refine st_nil ?_
    refine kn37 _ _ ?_
    refine seqK fun Q66 kn67 kr68 ke69 => ?_
    refine region ?_
    refine st_q (v := .slice none 0 0) (x_assign rfl) ?_
    refine st_nil ?_
    refine kn67 _ _ ?_
    refine seqK fun Q70 kn71 kr72 ke73 => ?_
    refine seqK fun Q74 kn75 kr76 ke77 => ?_
    refine region ?_
    refine st_q (v := .int .i64 ((0 : Nat) : Int)) (x_assign rfl) ?_
    refine st_nil ?_
    refine kn75 _ _ ?_
    refine blockK fun Q78 kn79 kr80 kx81 kb82 => ?_
    refine loopK (α := Nat × Value) (fun x => [(0, .pointer (some ⟨rb, 0, none⟩)), (2, .pointer (some ⟨w0.heap.size, 0, none⟩)), (4, .int .i64 f), (5, .pointer (some ⟨w19.heap.size, 0, none⟩)), (6, x.2), (7, .int .i64 ((x.1 : Nat) : Int))]) (fun x w83 => Ext w56 w83 ∧ x.1 ≤ L.length ∧ Own w83.heap w56.heap.size 31 2 x.2 ((L.take x.1).eraseIdx f.toNat).length (flat enT ((L.take x.1).eraseIdx f.toNat))) (fun x => L.length - x.1) (0, .slice none 0 0) ⟨rfl, rfl, rfl, rfl, rfl, rfl, trivial⟩ ?_ ?_
    ·
      refine ⟨Below.refl _ _, ?_⟩
      try dsimp only
      exact ⟨Nat.zero_le _, Own.nil _ _ _ _⟩
    ·
      rintro τ84 ⟨i, v⟩ w85 ⟨hx86, ⟨hi, hV⟩⟩
      try dsimp only at hi hV
      have hB87 := hB60.ext hx86
      have hB88 := hB61.ext hx86
      have hB89 := hB58.ext hx86
      have hF90 := hF62.ext hx86
      have hE91 : Mod (fun k => k = rb) w0 w85 := hE64.ext hx86
      have hz92 := hE91.le
      have hs93 := hx86.size
      intro Q94 kn95 kr96 ke97
      have hm : ((L.take i).eraseIdx f.toNat).length ≤ i := Nat.le_trans (List.eraseIdx_sublist _ _).length_le (by rw [List.length_take]; omega)
      obtain ⟨D, hD⟩ : ∃ D, D = (L.take i).eraseIdx f.toNat := ⟨_, rfl⟩
      rw [← hD] at hV hm
      obtain ⟨aD, cD, rfl, hcD, hcD1⟩ := hV.src.form
      refine seqK fun Q98 kn99 kr100 ke101 => ?_
      refine seqK fun Q102 kn103 kr104 ke105 => ?_
      refine region ?_
      refine st_q (v := .int .i64 ((i : Nat) : Int)) (x_move rfl) ?_
      refine st_q (v := .pointer (some ⟨rb, 0, none⟩)) (x_move rfl) ?_
      refine st_q (v := .pointer (some ⟨rb, 0, none⟩)) (x_nilCheck rfl) ?_
      refine st_q (v := .pointer (some ⟨rb, 0, none⟩)) (x_field (o := 0) T.fa45_0 rfl) ?_
      refine st_q (v := .slice au L.length cu) (x_load1 T.na29 rfl (hB87.one 0 rfl)) ?_
      refine st_q (v := .int .i64 ((L.length : Nat) : Int)) (x_lenSl rfl Try.underlying29 rfl) ?_
      refine st_q (v := .bool (decide (i < L.length))) (x_lssN rfl rfl) ?_
      refine st_nil ?_
      refine kn103 _ _ ?_
      refine cnd (p := i < L.length) rfl (fun h106 => ?_) (fun h106 => ?_)
      ·
        refine skip ?_
        refine kn99 _ _ ?_
        refine seqK fun Q107 kn108 kr109 ke110 => ?_
        refine blockK fun Q111 kn112 kr113 kx114 kb115 => ?_
        refine seqK fun Q116 kn117 kr118 ke119 => ?_
        refine region ?_
        refine st_q (v := .int .i64 ((i : Nat) : Int)) (x_move rfl) ?_
        refine st_q (v := .int .i64 ((f.toNat : Nat) : Int)) (x_move (by show Value.int .i64 f = _; rw [Int.toNat_of_nonneg (by omega)])) ?_
        refine st_q (v := .bool (decide (i ≠ f.toNat))) (x_neqN rfl rfl) ?_
        refine st_nil ?_
        refine kn117 _ _ ?_
        refine cnd (p := i ≠ f.toNat) rfl (fun h120 => ?_) (fun h120 => ?_)
        ·
          refine region ?_
          refine st_q (v := .slice aD D.length cD) (x_move rfl) ?_
          refine st_q (v := .pointer (some ⟨rb, 0, none⟩)) (x_move rfl) ?_
          refine st_q (v := .pointer (some ⟨rb, 0, none⟩)) (x_nilCheck rfl) ?_
          refine st_q (v := .pointer (some ⟨rb, 0, none⟩)) (x_field (o := 0) T.fa45_0 rfl) ?_
          refine st_q (v := .slice au L.length cu) (x_load1 T.na29 rfl (hB87.one 0 rfl)) ?_
          refine st_q (v := .int .i64 ((i : Nat) : Int)) (x_move rfl) ?_
          obtain ⟨b121, o122, ha123, hc124⟩ := hF90.src.at (by omega)
          refine st_q (v := .pointer (some ⟨b121, o122 + i * 2, none⟩)) (x_index' T.sl29 rfl ha123 rfl (by omega)) ?_
          refine st_q (v := .agg #[.int .i64 ((el L i).1), .int .i64 ((el L i).2)]) (x_loadA [.int .i64 ((el L i).1), .int .i64 ((el L i).2)] T.ag31 rfl (hc124.elem enT_len (i := i) (by omega))) ?_
          refine st_e (e_buildSlice (cs := [.int .i64 ((el L i).1), .int .i64 ((el L i).2)]) (e := 31) (fun _ => by kernel_rfl) ?_)
          intro w125 hA126
          have hx127 := hA126.ext
          have hs128 := hA126.size
          have hB129 : Blk w125.heap w85.heap.size [.int .i64 ((el L i).1), .int .i64 ((el L i).2)] 31 := hA126.new
          have hB130 := hB87.ext hx127
          have hB131 := hB88.ext hx127
          have hB132 := hB89.ext hx127
          have hF133 := hF90.ext hx127
          have hF134 := hx127.e hx86 (Nat.le_refl _)
          have hF135 := hV.ext hx127
          have hF136 := hc124.ext hx127
          have hE137 : Mod (fun k => k = rb) w0 w125 := hE91.ext hx127
          have hz138 := hE137.le
          have hs139 := hx127.size
          refine st_e (e_appendX T.sl29 rfl rfl hF135 (hB129.src1 (k := 2) (m := 1) rfl (by omega)) (ones (by rfl)) (by omega) (by decide) (by omega) ?_)
          intro v140 w141 hO142 hG143 hN144 hW145
          have hB146 := hB130.grown hG143 (fun e => by first | exact hne e | (have := (hF135.lt e).1; clear e; omega) | (have := (hO.lt e).2; clear e; omega))
          have hB147 := hB131.grown hG143 (fun e => by first | exact hne e | (have := (hF135.lt e).1; clear e; omega) | (have := (hO.lt e).2; clear e; omega))
          have hB148 := hB132.grown hG143 (fun e => by first | exact hne e | (have := (hF135.lt e).1; clear e; omega) | (have := (hO.lt e).2; clear e; omega))
          have hF149 := hF133.grown hG143 (fun b hb e => by have h1 := (hF135.lt e).1; have h2 := (hO.lt hb).2; clear e hb; omega)
          have hF150 := grown_below hG143 hF134 (Nat.le_refl _) (fun b hb => (by have := (hF135.lt hb).1; clear hb; omega))
          have hE152 : Mod (fun k => k = rb) w0 w141 := hE137.grown hG143 (fun b hb => .inr (by have := (hF135.lt hb).1; omega))
          have hz153 := hE152.le
          have hs154 := hG143.size
          have hO155 := Own.snoc (enc := enT) (u := (el L i)) hO142
          obtain ⟨a156, c157, rfl, hm158, hm159⟩ := hO155.src.form
          refine st_q (v := .slice a156 ((D.length + 1)) c157) (x_assign rfl) ?_
          refine st_nil ?_
          refine kn112 _ _ ?_
          refine kn108 _ _ ?_
          refine region ?_
          refine st_q (v := .int .i64 ((i : Nat) : Int)) (x_move rfl) ?_
          refine st_q (v := .int .i64 (((i + 1) : Nat) : Int)) (x_addN rfl rfl (by omega)) ?_
          refine st_q (v := .int .i64 (((i + 1) : Nat) : Int)) (x_assign rfl) ?_
          refine st_nil ?_
          refine kn95 _ ((i + 1), .slice a156 ((D.length + 1)) c157) _ ⟨rfl, rfl, rfl, rfl, rfl, rfl, trivial⟩ ⟨hF150, ?_⟩ ?_
          ·
            try dsimp only
            have e : (L.take (i + 1)).eraseIdx f.toNat = (D ++ [(el L i)]) := by rw [er_step (by omega) (by omega), hD]
            exact ⟨by omega, by rw [e]; simpa using hO155⟩
          ·
            (try dsimp only); omega
        ·
          refine skip ?_
          refine kn112 _ _ ?_
          refine kn108 _ _ ?_
          refine region ?_
          refine st_q (v := .int .i64 ((i : Nat) : Int)) (x_move rfl) ?_
          refine st_q (v := .int .i64 (((i + 1) : Nat) : Int)) (x_addN rfl rfl (by omega)) ?_
          refine st_q (v := .int .i64 (((i + 1) : Nat) : Int)) (x_assign rfl) ?_
          refine st_nil ?_
          refine kn95 _ ((i + 1), .slice aD D.length cD) _ ⟨rfl, rfl, rfl, rfl, rfl, rfl, trivial⟩ ⟨hx86, ?_⟩ ?_
          ·
            try dsimp only
            have e : (L.take (i + 1)).eraseIdx f.toNat = D := by rw [er_skip (.inr (by omega)) (by omega), hD]
            exact ⟨by omega, by rw [e]; exact hV⟩
          ·
            (try dsimp only); omega
      ·
        refine exit ?_
        refine ke101 _ _ _ ?_
        refine ke97 _ _ _ ?_
        refine kb82 _ _ ?_
        refine kn71 _ _ ?_
        refine seqK fun Q160 kn161 kr162 ke163 => ?_
        refine region ?_
        refine st_q (v := .pointer (some ⟨rb, 0, none⟩)) (x_move rfl) ?_
        refine st_q (v := .slice aD D.length cD) (x_move rfl) ?_
        refine st_q (v := .pointer (some ⟨rb, 0, none⟩)) (x_nilCheck rfl) ?_
        refine st_q (v := .pointer (some ⟨rb, 0, none⟩)) (x_field (o := 0) T.fa45_0 rfl) ?_
        refine st_s (e_st (v := .slice aD D.length cD) T.sz29 rfl rfl hB87 (by simp [Value.cells]) (by rfl) ?_)
        intro w164 hP165
        have hB166 : Blk w164.heap rb [.slice aD D.length cD] 45 := hP165.new
        have hs167 := hP165.size
        have hB168 := hB88.pt hP165 (by omega)
        have hB169 := hB89.pt hP165 (by omega)
        have hF170 := hF90.pt hP165 (by first | exact hB87.neO hF90 (by decide) | (intro e; first | exact hne e | (have := (hO.lt e).2; omega)))
        have hF172 := hV.pt hP165 (by first | exact hB87.neO hV (by decide) | (intro e; have := (hV.lt e).1; omega))
        have hE173 : Mod (fun k => k = rb) w0 w164 := hE91.pt hP165 (.inl rfl)
        have hz174 := hE173.le
        refine st_nil ?_
        refine kn161 _ _ ?_
        refine seqK fun Q175 kn176 kr177 ke178 => ?_
        refine region ?_
        refine st_q (v := .agg #[.int .i64 ((el L f.toNat).1), .int .i64 ((el L f.toNat).2)]) (x_loadA [.int .i64 ((el L f.toNat).1), .int .i64 ((el L f.toNat).2)] T.ag31 rfl (hB169.cells 0 [.int .i64 ((el L f.toNat).1), .int .i64 ((el L f.toNat).2)] (cells_at rfl))) ?_
        refine st_s (e_st (v := .agg #[.int .i64 ((el L f.toNat).1), .int .i64 ((el L f.toNat).2)]) T.sz31 rfl rfl hB168 (by simp [Value.cells]) (by rfl) ?_)
        intro w179 hP180
        have hB181 : Blk w179.heap w0.heap.size [.int .i64 ((el L f.toNat).1), .int .i64 ((el L f.toNat).2)] 31 := hP180.new
        have hs182 := hP180.size
        have hB183 := hB169.pt hP180 (by omega)
        have hB184 := hB166.pt hP180 (by omega)
        have hF185 := hF170.pt hP180 (by first | exact hB168.neO hF170 (by decide) | (intro e; first | exact hne e | (have := (hO.lt e).2; omega)))
        have hF186 := hF172.pt hP180 (by first | exact hB168.neO hF172 (by decide) | (intro e; have := (hV.lt e).1; omega))
        have hE187 : Mod (fun k => k = rb) w0 w179 := hE173.pt hP180 (.inr (by omega))
        have hz188 := hE187.le
        refine st_q (v := .bool true) (x_assign rfl) ?_
        refine st_nil ?_
        refine kn176 _ _ ?_
        refine ret ?_
        refine leaveCT (P := Try.prog) (fn := Try.f55) (t := 2) (u := 3) (T := 31) (b := w0.heap.size) (o := 0) (cs := [.int .i64 ((el L f.toNat).1), .int .i64 ((el L f.toNat).2)]) (v := .bool true) rfl T.ag31 rfl (hB181.cells 0 [.int .i64 ((el L f.toNat).1), .int .i64 ((el L f.toNat).2)] (cells_at rfl)) rfl ?_
        have e : L.eraseIdx f.toNat = D := by rw [hD, List.take_of_length_le (by omega)]
        refine ⟨f, rfl, hF, _, hB184, ?_, hE187, fun k hk => by have := (hF186.lt hk).1; omega⟩
        rw [e]; exact hF186.weak (by omega)

set_option maxHeartbeats 4000000 in
theorem refpeek56_0 (lo rb : Nat) (au : Option Addr) (cu : Nat) (L : List (Int × Int)) (w0 : World) (hB : Blk w0.heap rb [.slice au L.length cu] 45) (hO : Own w0.heap lo 31 2 (.slice au L.length cu) L.length (flat enT L)) (hn : L.length ≤ 8796093021952) (hz : L.length = 0) : Calls Try.prog 56 #[.pointer (some ⟨rb, 0, none⟩)] w0 fun e w' => e = .returned (.tuple #[.agg #[.int .i64 ((0 : Nat) : Int), .int .i64 ((0 : Nat) : Int)], .bool false]) ∧ Ext w0 w' := by
  have hE0 : Below w0.heap.size w0 w0 := Below.refl _ _
  have hz0 := hE0.le
  have hrb := hB.lt
  have hne := hB.neO hO (by decide)
  obtain ⟨_, hcu, hcu1⟩ := hO.src.capl
  refine enter Try.func56 rfl 17 Try.ntmps56 rfl ?_
  refine seqK fun Q1 kn2 kr3 ke4 => ?_
  refine region ?_
  refine st_e (e_alloc T.zv31 ?_)
  intro w5 hA6
  have hx7 := hA6.ext
  have hs8 := hA6.size
  have hB9 : Blk w5.heap w0.heap.size [.int .i64 ((0 : Nat) : Int), .int .i64 ((0 : Nat) : Int)] 31 := hA6.new
  have hB10 := hB.ext hx7
  have hF11 := hO.ext hx7
  have hE12 : Below w0.heap.size w0 w5 := hx7.e hE0 (Nat.le_refl _)
  have hz13 := hE12.le
  have hs14 := hx7.size
  refine st_q (v := .bool false) (x_assign rfl) ?_
  refine st_nil ?_
  refine kn2 _ _ ?_
  refine seqK fun Q15 kn16 kr17 ke18 => ?_
  refine region ?_
  refine st_q (v := .pointer (some ⟨rb, 0, none⟩)) (x_move rfl) ?_
  refine st_c (t_call [.pointer (some ⟨rb, 0, none⟩)] T.cf69 rfl rfl) (first69 lo rb au cu L _ hB10 hF11 hn) ?_
  rintro _ w19 ⟨f, rfl, hF, hx20⟩
  refine ⟨_, rfl, ?_⟩
  have hB21 := hB10.ext hx20
  have hB22 := hB9.ext hx20
  have hF23 := hF11.ext hx20
  have hE24 : Below w0.heap.size w0 w19 := hx20.e hE12 (Nat.le_refl _)
  have hz25 := hE24.le
  have hs26 := hx20.size
  have hF0 : L.length = 0 → f = -1 := hF.1
  have hF1 : 0 < L.length → 0 ≤ f ∧ f.toNat < L.length := fun h => ⟨(hF.2 h).1, (hF.2 h).2.1⟩
  have hf := hF0 hz
  refine st_q (v := .int .i64 f) (x_assign rfl) ?_
  refine st_nil ?_
  refine kn16 _ _ ?_
  refine seqK fun Q27 kn28 kr29 ke30 => ?_
  refine seqK fun Q31 kn32 kr33 ke34 => ?_
  refine region ?_
  refine st_q (v := .int .i64 f) (x_move rfl) ?_
  refine st_q (v := .bool (decide (f < 0))) (x_lss rfl rfl) ?_
  refine st_nil ?_
  refine kn32 _ _ ?_
  refine cnd (p := f < 0) rfl (fun h35 => ?_) (fun h35 => ?_)
  ·
    refine seqK fun Q36 kn37 kr38 ke39 => ?_
    refine region ?_
    refine st_q (v := .agg #[.int .i64 ((0 : Nat) : Int), .int .i64 ((0 : Nat) : Int)]) (x_build (fun _ => by kernel_rfl)) ?_
    refine st_s (e_st (v := .agg #[.int .i64 ((0 : Nat) : Int), .int .i64 ((0 : Nat) : Int)]) T.sz31 rfl rfl hB22 (by simp [Value.cells]) (by rfl) ?_)
    intro w40 hP41
    have hB42 : Blk w40.heap w0.heap.size [.int .i64 ((0 : Nat) : Int), .int .i64 ((0 : Nat) : Int)] 31 := hP41.new
    have hs43 := hP41.size
    have hB44 := hB21.pt hP41 (by omega)
    have hF45 := hF23.pt hP41 (by first | exact hB22.neO hF23 (by decide) | (intro e; first | exact hne e | (have := (hO.lt e).2; omega)))
    have hE46 : Below w0.heap.size w0 w40 := hP41.below hE24 (by omega)
    have hz47 := hE46.le
    refine st_q (v := .bool false) (x_assign rfl) ?_
    refine st_nil ?_
    refine kn37 _ _ ?_
    refine ret ?_
    refine kr29 _ _ ?_
    refine leaveCT (P := Try.prog) (fn := Try.f56) (t := 2) (u := 3) (T := 31) (b := w0.heap.size) (o := 0) (cs := [.int .i64 ((0 : Nat) : Int), .int .i64 ((0 : Nat) : Int)]) (v := .bool false) rfl T.ag31 rfl (hB42.cells 0 [.int .i64 ((0 : Nat) : Int), .int .i64 ((0 : Nat) : Int)] (cells_at rfl)) rfl ?_
    exact ⟨rfl, hE46⟩
  ·
    exact absurd h35 (by omega)

set_option maxHeartbeats 4000000 in
theorem refpeek56_1 (lo rb : Nat) (au : Option Addr) (cu : Nat) (L : List (Int × Int)) (w0 : World) (hB : Blk w0.heap rb [.slice au L.length cu] 45) (hO : Own w0.heap lo 31 2 (.slice au L.length cu) L.length (flat enT L)) (hn : L.length ≤ 8796093021952) (hz : 0 < L.length) : Calls Try.prog 56 #[.pointer (some ⟨rb, 0, none⟩)] w0 fun e w' => ∃ f, e = .returned (.tuple #[.agg (enT (el L f.toNat)).toArray, .bool true]) ∧ FI L L.length f ∧ Ext w0 w' := by
  have hE0 : Below w0.heap.size w0 w0 := Below.refl _ _
  have hz0 := hE0.le
  have hrb := hB.lt
  have hne := hB.neO hO (by decide)
  obtain ⟨_, hcu, hcu1⟩ := hO.src.capl
  refine enter Try.func56 rfl 17 Try.ntmps56 rfl ?_
  refine seqK fun Q1 kn2 kr3 ke4 => ?_
  refine region ?_
  refine st_e (e_alloc T.zv31 ?_)
  intro w5 hA6
  have hx7 := hA6.ext
  have hs8 := hA6.size
  have hB9 : Blk w5.heap w0.heap.size [.int .i64 ((0 : Nat) : Int), .int .i64 ((0 : Nat) : Int)] 31 := hA6.new
  have hB10 := hB.ext hx7
  have hF11 := hO.ext hx7
  have hE12 : Below w0.heap.size w0 w5 := hx7.e hE0 (Nat.le_refl _)
  have hz13 := hE12.le
  have hs14 := hx7.size
  refine st_q (v := .bool false) (x_assign rfl) ?_
  refine st_nil ?_
  refine kn2 _ _ ?_
  refine seqK fun Q15 kn16 kr17 ke18 => ?_
  refine region ?_
  refine st_q (v := .pointer (some ⟨rb, 0, none⟩)) (x_move rfl) ?_
  refine st_c (t_call [.pointer (some ⟨rb, 0, none⟩)] T.cf69 rfl rfl) (first69 lo rb au cu L _ hB10 hF11 hn) ?_
  rintro _ w19 ⟨f, rfl, hF, hx20⟩
  refine ⟨_, rfl, ?_⟩
  have hB21 := hB10.ext hx20
  have hB22 := hB9.ext hx20
  have hF23 := hF11.ext hx20
  have hE24 : Below w0.heap.size w0 w19 := hx20.e hE12 (Nat.le_refl _)
  have hz25 := hE24.le
  have hs26 := hx20.size
  have hF0 : L.length = 0 → f = -1 := hF.1
  have hF1 : 0 < L.length → 0 ≤ f ∧ f.toNat < L.length := fun h => ⟨(hF.2 h).1, (hF.2 h).2.1⟩
  obtain ⟨hf, hf1⟩ := hF1 hz
  refine st_q (v := .int .i64 f) (x_assign rfl) ?_
  refine st_nil ?_
  refine kn16 _ _ ?_
  refine seqK fun Q27 kn28 kr29 ke30 => ?_
  refine seqK fun Q31 kn32 kr33 ke34 => ?_
  refine region ?_
  refine st_q (v := .int .i64 f) (x_move rfl) ?_
  refine st_q (v := .bool (decide (f < 0))) (x_lss rfl rfl) ?_
  refine st_nil ?_
  refine kn32 _ _ ?_
  refine cnd (p := f < 0) rfl (fun h35 => ?_) (fun h35 => ?_)
  ·
    exact absurd h35 (by omega)
  ·
    refine skip ?_
    refine kn28 _ _ ?_
    refine seqK fun Q36 kn37 kr38 ke39 => ?_
    refine region ?_
    refine st_q (v := .pointer (some ⟨rb, 0, none⟩)) (x_move rfl) ?_
    refine st_q (v := .pointer (some ⟨rb, 0, none⟩)) (x_nilCheck rfl) ?_
    refine st_q (v := .pointer (some ⟨rb, 0, none⟩)) (x_field (o := 0) T.fa45_0 rfl) ?_
    refine st_q (v := .slice au L.length cu) (x_load1 T.na29 rfl (hB21.one 0 rfl)) ?_
    refine st_q (v := .int .i64 ((f.toNat : Nat) : Int)) (x_move (by show Value.int .i64 f = _; rw [Int.toNat_of_nonneg (by omega)])) ?_
    obtain ⟨b40, o41, ha42, hc43⟩ := hF23.src.at (by omega)
    refine st_q (v := .pointer (some ⟨b40, o41 + f.toNat * 2, none⟩)) (x_index' T.sl29 rfl ha42 rfl (by omega)) ?_
    refine st_q (v := .agg #[.int .i64 ((el L f.toNat).1), .int .i64 ((el L f.toNat).2)]) (x_loadA [.int .i64 ((el L f.toNat).1), .int .i64 ((el L f.toNat).2)] T.ag31 rfl (hc43.elem enT_len (i := f.toNat) (by omega))) ?_
    refine st_s (e_st (v := .agg #[.int .i64 ((el L f.toNat).1), .int .i64 ((el L f.toNat).2)]) T.sz31 rfl rfl hB22 (by simp [Value.cells]) (by rfl) ?_)
    intro w44 hP45
    have hB46 : Blk w44.heap w0.heap.size [.int .i64 ((el L f.toNat).1), .int .i64 ((el L f.toNat).2)] 31 := hP45.new
    have hs47 := hP45.size
    have hB48 := hB21.pt hP45 (by omega)
    have hF49 := hF23.pt hP45 (by first | exact hB22.neO hF23 (by decide) | (intro e; first | exact hne e | (have := (hO.lt e).2; omega)))
    have hE51 : Below w0.heap.size w0 w44 := hP45.below hE24 (by omega)
    have hz52 := hE51.le
    refine st_q (v := .bool true) (x_assign rfl) ?_
    refine st_nil ?_
    refine kn37 _ _ ?_
    refine ret ?_
    refine leaveCT (P := Try.prog) (fn := Try.f56) (t := 2) (u := 3) (T := 31) (b := w0.heap.size) (o := 0) (cs := [.int .i64 ((el L f.toNat).1), .int .i64 ((el L f.toNat).2)]) (v := .bool true) rfl T.ag31 rfl (hB46.cells 0 [.int .i64 ((el L f.toNat).1), .int .i64 ((el L f.toNat).2)] (cells_at rfl)) rfl ?_
    exact ⟨f, rfl, hF, hE51⟩

set_option maxHeartbeats 4000000 in
theorem refpush57 (lo rb : Nat) (au : Option Addr) (cu : Nat) (L : List (Int × Int)) (z : Int × Int) (w0 : World) (hB : Blk w0.heap rb [.slice au L.length cu] 45) (hO : Own w0.heap lo 31 2 (.slice au L.length cu) L.length (flat enT L)) (hn : L.length ≤ 8796093021952) (hlo : lo ≤ w0.heap.size) : Calls Try.prog 57 #[.pointer (some ⟨rb, 0, none⟩), .agg (enT z).toArray] w0 fun e w' => e = .returned (.tuple #[]) ∧ ∃ u', Blk w'.heap rb [u'] 45 ∧ Own w'.heap lo 31 2 u' (L ++ [z]).length (flat enT (L ++ [z])) ∧ Mod (fun k => k = rb ∨ Value.ownBlock (.slice au L.length cu) = some k) w0 w' ∧ (u'.ownBlock = Value.ownBlock (.slice au L.length cu) ∨ ∀ k, u'.ownBlock = some k → w0.heap.size ≤ k) := by
  have hE0 : Mod (fun k => k = rb ∨ Value.ownBlock (.slice au L.length cu) = some k) w0 w0 := Mod.refl _ _
  have hz0 := hE0.le
  have hrb := hB.lt
  have hne := hB.neO hO (by decide)
  obtain ⟨_, hcu, hcu1⟩ := hO.src.capl
  refine enter Try.func57 rfl 14 Try.ntmps57 rfl ?_
  refine seqK fun Q1 kn2 kr3 ke4 => ?_
  refine region ?_
  refine st_e (e_box (v := .agg #[.int .i64 z.1, .int .i64 z.2]) rfl ?_)
  intro w5 hA6
  have hx7 := hA6.ext
  have hs8 := hA6.size
  have hB9 : Blk w5.heap w0.heap.size [.int .i64 z.1, .int .i64 z.2] 31 := hA6.new
  have hB10 := hB.ext hx7
  have hF11 := hO.ext hx7
  have hE12 : Mod (fun k => k = rb ∨ Value.ownBlock (.slice au L.length cu) = some k) w0 w5 := hE0.ext hx7
  have hz13 := hE12.le
  have hs14 := hx7.size
  refine st_nil ?_
  refine kn2 _ _ ?_
  refine regionD1 [4, 5] [0, 1, 2, 3, 4, 5, 8, 9] (.one 0 (.one 1 (.one 2 (.one 3 (.one 4 (.one 5 (.one 6 (.one 7 (.one 8 (.one 9 (.one 10 .done))))))))))) (by kernel_rfl) (by kernel_rfl) ?_
  intro w15 hx16 hs17
  have hB18 := hB10.ext hx16
  have hB19 := hB9.ext hx16
  have hF20 := hF11.ext hx16
  have hE21 : Mod (fun k => k = rb ∨ Value.ownBlock (.slice au L.length cu) = some k) w0 w15 := hE12.ext hx16
  have hz22 := hE21.le
  have hs23 := hx16.size
  have hS24 : Ext w15 w15 := Below.refl _ _
  refine d_q (v := .pointer (some ⟨rb, 0, none⟩)) rfl rfl (fun _ => x_move rfl) ?_
  refine d_q (v := .pointer (some ⟨rb, 0, none⟩)) rfl rfl (fun _ => x_move rfl) ?_
  refine d_q (v := .pointer (some ⟨rb, 0, none⟩)) rfl rfl (fun _ => x_nilCheck rfl) ?_
  refine d_q (v := .pointer (some ⟨rb, 0, none⟩)) rfl rfl (fun _ => x_field (o := 0) T.fa45_0 rfl) ?_
  refine d_l (v := .slice au L.length cu) rfl rfl rfl (fun v26 hw25 => x_load1 T.na29 rfl ((hB18.one 0 rfl).ext hw25)) ?_
  refine d_l (v := .agg #[.int .i64 z.1, .int .i64 z.2]) rfl rfl rfl (fun v28 hw27 => x_loadA [.int .i64 z.1, .int .i64 z.2] T.ag31 rfl ((hB19.cells 0 [.int .i64 z.1, .int .i64 z.2] (cells_at rfl)).ext hw27)) ?_
  refine d_e (by decide) (d_e' rfl rfl (e_buildSlice (cs := [.int .i64 z.1, .int .i64 z.2]) (e := 31) (fun _ => by kernel_rfl) ?_))
  intro w29 hA30
  have hx31 := hA30.ext
  have hs32 := hA30.size
  have hB33 : Blk w29.heap w15.heap.size [.int .i64 z.1, .int .i64 z.2] 31 := hA30.new
  have hB34 := hB18.ext hx31
  have hB35 := hB19.ext hx31
  have hF36 := hF20.ext hx31
  have hE37 : Mod (fun k => k = rb ∨ Value.ownBlock (.slice au L.length cu) = some k) w0 w29 := hE21.ext hx31
  have hz38 := hE37.le
  have hs39 := hx31.size
  have hS40 := hS24.trans (hx31.mono hS24.size)
  refine ⟨fun _ => hS40, ?_⟩
  refine d_e (by decide) (d_e' rfl rfl (e_appendX T.sl29 rfl rfl hF36 (hB33.src1 (k := 2) (m := 1) rfl (by omega)) (ones (by rfl)) (by omega) (by decide) (by omega) ?_))
  intro v41 w42 hO43 hG44 hN45 hW46
  have hB47 := hB34.grown hG44 (fun e => by first | exact hne e | (have := (hF36.lt e).1; clear e; omega) | (have := (hO.lt e).2; clear e; omega))
  have hB48 := hB35.grown hG44 (fun e => by first | exact hne e | (have := (hF36.lt e).1; clear e; omega) | (have := (hO.lt e).2; clear e; omega))
  have hE49 : Mod (fun k => k = rb ∨ Value.ownBlock (.slice au L.length cu) = some k) w0 w42 := hE37.grown hG44 (fun b hb => .inl (.inr hb))
  have hz50 := hE49.le
  have hs51 := hG44.size
  refine ⟨need_no (by kernel_rfl), ?_⟩
  have hO52 := Own.snoc (enc := enT) (u := z) hO43
  obtain ⟨a53, c54, rfl, hm55, hm56⟩ := hO52.src.form
  refine d_q (v := .pointer (some ⟨rb, 0, none⟩)) rfl rfl (fun _ => x_nilCheck rfl) ?_
  refine d_q (v := .pointer (some ⟨rb, 0, none⟩)) rfl rfl (fun _ => x_field (o := 0) T.fa45_0 rfl) ?_
  refine d_e (by decide) (d_s' rfl rfl (e_st (v := .slice a53 ((L.length + 1)) c54) T.sz29 rfl rfl hB47 (by simp [Value.cells]) (by rfl) ?_))
  intro w57 hP58
  have hB59 : Blk w57.heap rb [.slice a53 ((L.length + 1)) c54] 45 := hP58.new
  have hs60 := hP58.size
  have hB61 := hB48.pt hP58 (by omega)
  have hF62 := hO52.pt hP58 (by first | exact hB47.neO hO52 (by decide) | (simp [Value.ownBlock]; omega))
  have hE63 : Mod (fun k => k = rb ∨ Value.ownBlock (.slice au L.length cu) = some k) w0 w57 := hE49.pt hP58 (.inl (.inl rfl))
  have hz64 := hE63.le
  refine ⟨need_no (by kernel_rfl), ?_⟩
  refine d_done ?_
  refine leave0' (P := Try.prog) (fn := Try.f57) rfl ?_
  exact ⟨rfl, _, hB59, (by rw [List.length_append]; exact hF62), hE63, hW46.imp (fun e => e) (fun e k hk => by have := e.2 k hk; omega)⟩

end Go.Proofs.Ytgfolockecjlnaa
