import Derived.Test.YtknfjgbipfpnjaaGBr
namespace Go.Proofs.Ytknfjgbipfpnjaa
open Go.RowKit Go.Eng Go.OrdPure
open Go.Knot Go.HeapPure
theorem T.cf9 : CF Try.prog 9 := fun _ _ => by kernel_rfl
theorem T.cf10 : CF Try.prog 10 := fun _ _ => by kernel_rfl
theorem T.cf30 : CF Try.prog 30 := fun _ _ => by kernel_rfl
theorem T.cf28 : CF Try.prog 28 := fun _ _ => by kernel_rfl
theorem T.cf31 : CF Try.prog 31 := fun _ _ => by kernel_rfl
theorem T.cf32 : CF Try.prog 32 := fun _ _ => by kernel_rfl
theorem T.cf33 : CF Try.prog 33 := fun _ _ => by kernel_rfl
theorem T.cf14 : CF Try.prog 14 := fun _ _ => by kernel_rfl
theorem T.cf15 : CF Try.prog 15 := fun _ _ => by kernel_rfl
theorem T.cf24 : CF Try.prog 24 := fun _ _ => by kernel_rfl
theorem T.cf27 : CF Try.prog 27 := fun _ _ => by kernel_rfl
theorem T.cf23 : CF Try.prog 23 := fun _ _ => by kernel_rfl
theorem T.cf25 : CF Try.prog 25 := fun _ _ => by kernel_rfl

theorem RowsIn.below {w w' : World} {v : Value} {us : List Value} {P : List (List ByteArray)} (hr : RowsIn w.heap v us P) (h : Ext w w') : RowsIn w'.heap v us P :=
  ⟨hr.len, hr.src.below h, fun i hi => let ⟨q, c, e, hs⟩ := hr.row i hi; ⟨q, c, e, hs.below h⟩⟩
theorem prt_of_pos {P : List (List ByteArray)} {a b : ByteArray} (h : pos P a = pos P b) : prt P a = prt P b := by unfold prt; unfold pos at h; rw [h]
theorem lev_eq {ns : List ByteArray} {es : List Edge} {lev : ByteArray → Nat} (h : IsLev ns es lev) {a b : ByteArray} (hm : Mut es a b) : lev a = lev b := Nat.le_antisymm (h.rule.down hm.2) (h.rule.down hm.1)
theorem cyc_yes {ns : List ByteArray} {es : List Edge} {row : List Nat} (h : IsCyc ns es row true) : ∃ b d l, row = b :: l ∧ BestU ns es es.length b d ∧ Trip ns es b l := by
  rcases h with ⟨_, e, _⟩ | ⟨b, d, l, e, _, h1, h2⟩
  · cases e
  · exact ⟨b, d, l, e, h1, h2⟩
theorem cyc_no {ns : List ByteArray} {es : List Edge} {row : List Nat} (h : IsCyc ns es row false) : row = [] := by
  rcases h with ⟨e, _, _⟩ | ⟨_, _, _, _, e, _⟩
  · exact e
  · cases e
set_option maxHeartbeats 4000000 in
theorem trip25 (es : List Edge) (P : List (List ByteArray)) (us : List Value) (row : List Nat) (va vp vb : Value) (w0 : World) (ha : Src w0.heap va es.length 3 (flat enE es)) (hP : RowsIn w0.heap vp us P) (hb : Src w0.heap vb row.length 1 (flat enN row)) (hT : TripOK es P row) : Calls Try.prog 25 #[va, vp, vb] w0 fun e w' => e = .returned (.bool true) ∧ Ext w0 w' := by
  have hE0 : Below w0.heap.size w0 w0 := Below.refl _ _
  have hz0 := hE0.le
  obtain ⟨a, ca, rfl, hca, hca1⟩ := ha.form
  obtain ⟨b, cb, rfl, hcb, hcb1⟩ := hb.form
  refine enter Try.func25 rfl 116 Try.ntmps25 rfl ?_
  refine seqK fun Q1 kn2 kr3 ke4 => ?_
  refine region ?_
  refine st_q (v := .bool false) (x_assign rfl) ?_
  refine st_nil ?_
  refine kn2 _ _ ?_
  refine seqK fun Q5 kn6 kr7 ke8 => ?_
  refine seqK fun Q9 kn10 kr11 ke12 => ?_
  refine region ?_
  refine st_q (v := .slice b row.length cb) (x_move rfl) ?_
  refine st_q (v := .int .i64 ((row.length : Nat) : Int)) (x_lenSl rfl Try.underlying38 rfl) ?_
  refine st_q (v := .bool (decide (row.length = 0))) (x_eqlN rfl rfl) ?_
  refine st_nil ?_
  refine kn10 _ _ ?_
  refine cnd (p := row.length = 0) rfl (fun h13 => ?_) (fun h13 => ?_)
  ·
    exact absurd h13 (by have := hT.ne; omega)
  ·
    refine skip ?_
    refine kn6 _ _ ?_
    refine seqK fun Q14 kn15 kr16 ke17 => ?_
    refine seqK fun Q18 kn19 kr20 ke21 => ?_
    refine region ?_
    refine st_q (v := .int .i64 ((0 : Nat) : Int)) (x_assign rfl) ?_
    refine st_nil ?_
    refine kn19 _ _ ?_
    refine blockK fun Q22 kn23 kr24 kx25 kb26 => ?_
    refine loopK (α := Nat) (fun x => [(0, .slice a es.length ca), (1, vp), (2, .slice b row.length cb), (7, .int .i64 ((x : Nat) : Int))]) (fun x w27 => Ext w0 w27 ∧ x ≤ row.length) (fun x => row.length - x) (0) ⟨rfl, rfl, rfl, rfl, trivial⟩ ?_ ?_
    ·
      refine ⟨Below.refl _ _, ?_⟩
      try dsimp only
      exact Nat.zero_le _
    ·
      rintro τ28 i w29 ⟨hx30, hi⟩
      try dsimp only at hi
      have hE31 : Below w0.heap.size w0 w29 := hx30.e hE0 (Nat.le_refl _)
      have hz32 := hE31.le
      have hs33 := hx30.size
      intro Q34 kn35 kr36 ke37
      refine seqK fun Q38 kn39 kr40 ke41 => ?_
      refine seqK fun Q42 kn43 kr44 ke45 => ?_
      refine region ?_
      refine st_q (v := .int .i64 ((i : Nat) : Int)) (x_move rfl) ?_
      refine st_q (v := .slice b row.length cb) (x_move rfl) ?_
      refine st_q (v := .int .i64 ((row.length : Nat) : Int)) (x_lenSl rfl Try.underlying38 rfl) ?_
      refine st_q (v := .bool (decide (i < row.length))) (x_lssN rfl rfl) ?_
      refine st_nil ?_
      refine kn43 _ _ ?_
      refine cnd (p := i < row.length) rfl (fun h46 => ?_) (fun h46 => ?_)
      ·
        refine skip ?_
        refine kn39 _ _ ?_
        refine seqK fun Q47 kn48 kr49 ke50 => ?_
        refine blockK fun Q51 kn52 kr53 kx54 kb55 => ?_
        refine seqK fun Q56 kn57 kr58 ke59 => ?_
        refine region ?_
        have hmod : ((i + 1) % row.length) < row.length := Nat.mod_lt _ hT.ne
        have hl1 := hT.lt i (by omega)
        have hl2 := hT.lt _ hmod
        have hnx := hT.nxt i (by omega)
        have hon := hT.one i (by omega)
        have hl0 := hT.lt 0 hT.ne
        refine st_q (v := .slice b row.length cb) (x_move rfl) ?_
        refine st_q (v := .int .i64 ((i : Nat) : Int)) (x_move rfl) ?_
        refine st_q (v := .int .i64 (((i + 1) : Nat) : Int)) (x_addN rfl rfl (by omega)) ?_
        refine st_q (v := .slice b row.length cb) (x_move rfl) ?_
        refine st_q (v := .int .i64 ((row.length : Nat) : Int)) (x_lenSl rfl Try.underlying38 rfl) ?_
        refine st_q (v := .int .i64 ((((i + 1) % row.length) : Nat) : Int)) (x_remN rfl rfl (by omega)) ?_
        obtain ⟨b60, o61, ha62, hc63⟩ := hb.at (by omega)
        refine st_q (v := .pointer (some ⟨b60, o61 + (((i + 1) % row.length)) * 1, none⟩)) (x_index' T.sl38 rfl ha62 rfl (by omega)) ?_
        refine st_q (v := .int .i64 (((el row (((i + 1) % row.length))) : Nat) : Int)) (x_load1 T.na3 rfl ((hc63.below hE31).elem enN_len (i := ((i + 1) % row.length)) (by omega))) ?_
        refine st_q (v := .int .i64 (((el row (((i + 1) % row.length))) : Nat) : Int)) (x_assign rfl) ?_
        refine st_nil ?_
        refine kn57 _ _ ?_
        refine seqK fun Q64 kn65 kr66 ke67 => ?_
        refine seqK fun Q68 kn69 kr70 ke71 => ?_
        refine regionD1 [3, 9, 29, 32, 37] [0, 1, 2, 3, 4, 5, 6, 7, 8, 9, 10, 11, 12, 13, 14, 15, 16, 17, 18, 19, 20, 21, 22, 23, 24, 25, 26, 27, 28, 29, 30, 31, 32, 33, 34, 35, 36, 37, 38, 39] (.one 0 (.one 1 (.one 2 (.one 3 (.one 4 (.one 5 (.one 6 (.one 7 (.one 8 (.one 9 (.one 10 (.one 11 (.one 12 (.one 13 (.one 14 (.one 15 (.one 16 (.one 17 (.one 18 (.one 19 (.one 20 (.one 21 (.one 22 (.one 23 (.one 24 (.one 25 (.one 26 (.one 27 (.one 28 (.one 29 (.one 30 (.one 31 (.one 32 (.one 33 (.one 34 (.one 35 (.one 36 (.one 37 (.one 38 (.one 39 .done)))))))))))))))))))))))))))))))))))))))) (by kernel_rfl) (by kernel_rfl) ?_
        intro w72 hx73 hs74
        have hF75 := hx73.e hx30 (Nat.le_refl _)
        have hE76 : Below w0.heap.size w0 w72 := hx73.e hE31 (Nat.le_refl _)
        have hz77 := hE76.le
        have hs78 := hx73.size
        have hS79 : Ext w72 w72 := Below.refl _ _
        refine d_q (v := .slice b row.length cb) rfl rfl (fun _ => x_move rfl) ?_
        refine d_q (v := .int .i64 ((i : Nat) : Int)) rfl rfl (fun _ => x_move rfl) ?_
        refine d_q (v := .pointer (some ⟨b60, o61 + i * 1, none⟩)) rfl rfl (fun _ => x_index' T.sl38 rfl ha62 rfl (by omega)) ?_
        refine d_l (v := .int .i64 (((el row i) : Nat) : Int)) rfl rfl rfl (fun v81 hw80 => x_load1 T.na3 rfl (((hc63.below hE76).elem enN_len (i := i) (by omega)).ext hw80)) ?_
        refine d_q (v := .bool (decide (((el row i)) < 0))) rfl rfl (fun _ => x_lssN rfl rfl) ?_
        refine d_if rfl rfl (p := ((el row i)) < 0) (fun _ => x_move rfl) (fun h82 => ?_) (fun h82 => ?_)
        ·
          exact absurd h82 (by omega)
        ·
          refine d_gq (v := .slice b row.length cb) (j := 5) (t := 32) rfl rfl rfl rfl (by decide) (fun _ => x_move rfl) ?_
          refine d_gq (v := .int .i64 ((i : Nat) : Int)) (j := 5) (t := 32) rfl rfl rfl rfl (by decide) (fun _ => x_move rfl) ?_
          refine d_gq (v := .pointer (some ⟨b60, o61 + i * 1, none⟩)) (j := 5) (t := 32) rfl rfl rfl rfl (by decide) (fun _ => x_index' T.sl38 rfl ha62 rfl (by omega)) ?_
          refine d_gl (v := .int .i64 (((el row i) : Nat) : Int)) (j := 5) (t := 32) rfl rfl rfl rfl rfl (by decide) (fun v84 hw83 => x_load1 T.na3 rfl (((hc63.below hE76).elem enN_len (i := i) (by omega)).ext hw83)) ?_
          refine d_gq (v := .slice a es.length ca) (j := 5) (t := 32) rfl rfl rfl rfl (by decide) (fun _ => x_move rfl) ?_
          refine d_gq (v := .int .i64 ((es.length : Nat) : Int)) (j := 5) (t := 32) rfl rfl rfl rfl (by decide) (fun _ => x_lenSl rfl Try.underlying23 rfl) ?_
          refine d_gq (v := .bool (decide (es.length ≤ ((el row i))))) (j := 5) (t := 32) rfl rfl rfl rfl (by decide) (fun _ => x_geqN rfl rfl) ?_
          refine d_q (v := .bool (decide (es.length ≤ ((el row i))))) rfl rfl (fun _ => x_pickF rfl rfl) ?_
          refine d_if rfl rfl (p := es.length ≤ ((el row i))) (fun _ => x_move rfl) (fun h85 => ?_) (fun h85 => ?_)
          ·
            exact absurd h85 (by omega)
          ·
            refine d_gq (v := .int .i64 (((el row (((i + 1) % row.length))) : Nat) : Int)) (j := 14) (t := 41) rfl rfl rfl rfl (by decide) (fun _ => x_move rfl) ?_
            refine d_gq (v := .bool (decide (((el row (((i + 1) % row.length)))) < 0))) (j := 14) (t := 41) rfl rfl rfl rfl (by decide) (fun _ => x_lssN rfl rfl) ?_
            refine d_q (v := .bool (decide (((el row (((i + 1) % row.length)))) < 0))) rfl rfl (fun _ => x_pickF rfl rfl) ?_
            refine d_if rfl rfl (p := ((el row (((i + 1) % row.length)))) < 0) (fun _ => x_move rfl) (fun h86 => ?_) (fun h86 => ?_)
            ·
              exact absurd h86 (by omega)
            ·
              refine d_gq (v := .int .i64 (((el row (((i + 1) % row.length))) : Nat) : Int)) (j := 18) (t := 45) rfl rfl rfl rfl (by decide) (fun _ => x_move rfl) ?_
              refine d_gq (v := .slice a es.length ca) (j := 18) (t := 45) rfl rfl rfl rfl (by decide) (fun _ => x_move rfl) ?_
              refine d_gq (v := .int .i64 ((es.length : Nat) : Int)) (j := 18) (t := 45) rfl rfl rfl rfl (by decide) (fun _ => x_lenSl rfl Try.underlying23 rfl) ?_
              refine d_gq (v := .bool (decide (es.length ≤ ((el row (((i + 1) % row.length))))))) (j := 18) (t := 45) rfl rfl rfl rfl (by decide) (fun _ => x_geqN rfl rfl) ?_
              refine d_q (v := .bool (decide (es.length ≤ ((el row (((i + 1) % row.length))))))) rfl rfl (fun _ => x_pickF rfl rfl) ?_
              refine d_if rfl rfl (p := es.length ≤ ((el row (((i + 1) % row.length))))) (fun _ => x_move rfl) (fun h87 => ?_) (fun h87 => ?_)
              ·
                exact absurd h87 (by omega)
              ·
                refine d_gq (v := .slice a es.length ca) (j := 24) (t := 51) rfl rfl rfl rfl (by decide) (fun _ => x_move rfl) ?_
                refine d_gq (v := .slice b row.length cb) (j := 24) (t := 51) rfl rfl rfl rfl (by decide) (fun _ => x_move rfl) ?_
                refine d_gq (v := .int .i64 ((i : Nat) : Int)) (j := 24) (t := 51) rfl rfl rfl rfl (by decide) (fun _ => x_move rfl) ?_
                refine d_gq (v := .pointer (some ⟨b60, o61 + i * 1, none⟩)) (j := 24) (t := 51) rfl rfl rfl rfl (by decide) (fun _ => x_index' T.sl38 rfl ha62 rfl (by omega)) ?_
                refine d_gl (v := .int .i64 (((el row i) : Nat) : Int)) (j := 24) (t := 51) rfl rfl rfl rfl rfl (by decide) (fun v89 hw88 => x_load1 T.na3 rfl (((hc63.below hE76).elem enN_len (i := i) (by omega)).ext hw88)) ?_
                obtain ⟨b90, o91, ha92, hc93⟩ := ha.at (by omega)
                refine d_gq (v := .pointer (some ⟨b90, o91 + ((el row i)) * 3, none⟩)) (j := 24) (t := 51) rfl rfl rfl rfl (by decide) (fun _ => x_index' T.sl23 rfl ha92 rfl (by omega)) ?_
                refine d_gq (v := .pointer (some ⟨b90, o91 + ((el row i)) * 3 + 1, none⟩)) (j := 24) (t := 51) rfl rfl rfl rfl (by decide) (fun _ => x_field (o := o91 + ((el row i)) * 3) T.fa47_1 rfl) ?_
                refine d_gl (v := .string ((el es ((el row i))).2.1)) (j := 24) (t := 51) rfl rfl rfl rfl rfl (by decide) (fun v95 hw94 => x_load1 T.na9 rfl ((((hc93.below hE76).elem enE_len (i := (el row i)) (by omega)).fld 1 rfl).ext hw94)) ?_
                refine d_gq (v := .slice a es.length ca) (j := 24) (t := 51) rfl rfl rfl rfl (by decide) (fun _ => x_move rfl) ?_
                refine d_gq (v := .int .i64 (((el row (((i + 1) % row.length))) : Nat) : Int)) (j := 24) (t := 51) rfl rfl rfl rfl (by decide) (fun _ => x_move rfl) ?_
                refine d_gq (v := .pointer (some ⟨b90, o91 + ((el row (((i + 1) % row.length)))) * 3, none⟩)) (j := 24) (t := 51) rfl rfl rfl rfl (by decide) (fun _ => x_index' T.sl23 rfl ha92 rfl (by omega)) ?_
                refine d_gq (v := .pointer (some ⟨b90, o91 + ((el row (((i + 1) % row.length)))) * 3, none⟩)) (j := 24) (t := 51) rfl rfl rfl rfl (by decide) (fun _ => x_field (o := o91 + ((el row (((i + 1) % row.length)))) * 3) T.fa47_0 rfl) ?_
                refine d_gl (v := .string ((el es ((el row (((i + 1) % row.length))))).1)) (j := 24) (t := 51) rfl rfl rfl rfl rfl (by decide) (fun v97 hw96 => x_load1 T.na9 rfl ((((hc93.below hE76).elem enE_len (i := (el row (((i + 1) % row.length)))) (by omega)).fld 0 rfl).ext hw96)) ?_
                refine d_gq (v := .bool (decide (((el es ((el row i))).2.1).toList ≠ ((el es ((el row (((i + 1) % row.length))))).1).toList))) (j := 24) (t := 51) rfl rfl rfl rfl (by decide) (fun _ => x_neqS rfl rfl) ?_
                refine d_q (v := .bool (decide (((el es ((el row i))).2.1).toList ≠ ((el es ((el row (((i + 1) % row.length))))).1).toList))) rfl rfl (fun _ => x_pickF rfl rfl) ?_
                refine d_done ?_
                refine kn69 _ _ ?_
                refine cnd (p := ((el es ((el row i))).2.1).toList ≠ ((el es ((el row (((i + 1) % row.length))))).1).toList) rfl (fun h98 => ?_) (fun h98 => ?_)
                ·
                  exact absurd h98 (not_not_intro (by rw [hnx]))
                ·
                  refine skip ?_
                  refine kn65 _ _ ?_
                  refine seqK fun Q99 kn100 kr101 ke102 => ?_
                  refine seqK fun Q103 kn104 kr105 ke106 => ?_
                  refine regionD1 [5, 8, 14, 17] [0, 1, 2, 3, 4, 5, 6, 7, 8, 10, 11, 12, 13, 14, 15, 16, 17, 19] (.one 0 (.one 1 (.one 2 (.one 3 (.one 4 (.one 5 (.one 6 (.one 7 (.one 8 (.one 10 (.one 11 (.one 12 (.one 13 (.one 14 (.one 15 (.one 16 (.one 17 (.one 9 (.one 18 (.one 19 .done)))))))))))))))))))) (by kernel_rfl) (by kernel_rfl) ?_
                  intro w107 hx108 hs109
                  have hF110 := hx108.e hF75 (Nat.le_refl _)
                  have hE111 : Below w0.heap.size w0 w107 := hx108.e hE76 (Nat.le_refl _)
                  have hz112 := hE111.le
                  have hs113 := hx108.size
                  have hS114 : Ext w107 w107 := Below.refl _ _
                  refine d_q (v := vp) rfl rfl (fun _ => x_move rfl) ?_
                  refine d_q (v := .slice a es.length ca) rfl rfl (fun _ => x_move rfl) ?_
                  refine d_q (v := .slice b row.length cb) rfl rfl (fun _ => x_move rfl) ?_
                  refine d_q (v := .int .i64 ((i : Nat) : Int)) rfl rfl (fun _ => x_move rfl) ?_
                  refine d_q (v := .pointer (some ⟨b60, o61 + i * 1, none⟩)) rfl rfl (fun _ => x_index' T.sl38 rfl ha62 rfl (by omega)) ?_
                  refine d_l (v := .int .i64 (((el row i) : Nat) : Int)) rfl rfl rfl (fun v116 hw115 => x_load1 T.na3 rfl (((hc63.below hE111).elem enN_len (i := i) (by omega)).ext hw115)) ?_
                  refine d_q (v := .pointer (some ⟨b90, o91 + ((el row i)) * 3, none⟩)) rfl rfl (fun _ => x_index' T.sl23 rfl ha92 rfl (by omega)) ?_
                  refine d_q (v := .pointer (some ⟨b90, o91 + ((el row i)) * 3, none⟩)) rfl rfl (fun _ => x_field (o := o91 + ((el row i)) * 3) T.fa47_0 rfl) ?_
                  refine d_l (v := .string ((el es ((el row i))).1)) rfl rfl rfl (fun v118 hw117 => x_load1 T.na9 rfl ((((hc93.below hE111).elem enE_len (i := (el row i)) (by omega)).fld 0 rfl).ext hw117)) ?_
                  refine d_q (v := vp) rfl rfl (fun _ => x_move rfl) ?_
                  refine d_q (v := .slice a es.length ca) rfl rfl (fun _ => x_move rfl) ?_
                  refine d_q (v := .slice b row.length cb) rfl rfl (fun _ => x_move rfl) ?_
                  refine d_q (v := .pointer (some ⟨b60, o61 + 0 * 1, none⟩)) rfl rfl (fun _ => x_index' T.sl38 rfl ha62 rfl (by omega)) ?_
                  refine d_l (v := .int .i64 (((el row 0) : Nat) : Int)) rfl rfl rfl (fun v120 hw119 => x_load1 T.na3 rfl (((hc63.below hE111).elem enN_len (i := 0) (by omega)).ext hw119)) ?_
                  refine d_q (v := .pointer (some ⟨b90, o91 + ((el row 0)) * 3, none⟩)) rfl rfl (fun _ => x_index' T.sl23 rfl ha92 rfl (by omega)) ?_
                  refine d_q (v := .pointer (some ⟨b90, o91 + ((el row 0)) * 3, none⟩)) rfl rfl (fun _ => x_field (o := o91 + ((el row 0)) * 3) T.fa47_0 rfl) ?_
                  refine d_l (v := .string ((el es ((el row 0))).1)) rfl rfl rfl (fun v122 hw121 => x_load1 T.na9 rfl ((((hc93.below hE111).elem enE_len (i := (el row 0)) (by omega)).fld 0 rfl).ext hw121)) ?_
                  refine d_e (by decide) (d_c' rfl rfl (t_call [vp, .string ((el es ((el row i))).1)] T.cf23 rfl rfl) (part23 P us (el es ((el row i))).1 _ _ (RowsIn.below hP hE111)) ?_)
                  rintro _ w123 ⟨rfl, hx124⟩
                  refine ⟨_, rfl, ?_⟩
                  have hF125 := hx124.e hF110 (Nat.le_refl _)
                  have hE126 : Below w0.heap.size w0 w123 := hx124.e hE111 (Nat.le_refl _)
                  have hz127 := hE126.le
                  have hs128 := hx124.size
                  have hS129 := hS114.trans (hx124.mono hS114.size)
                  refine ⟨fun _ => hS129, ?_⟩
                  refine d_e (by decide) (d_c' rfl rfl (t_call [vp, .string ((el es ((el row 0))).1)] T.cf23 rfl rfl) (part23 P us (el es ((el row 0))).1 _ _ (RowsIn.below hP hE126)) ?_)
                  rintro _ w130 ⟨rfl, hx131⟩
                  refine ⟨_, rfl, ?_⟩
                  have hF132 := hx131.e hF125 (Nat.le_refl _)
                  have hE133 : Below w0.heap.size w0 w130 := hx131.e hE126 (Nat.le_refl _)
                  have hz134 := hE133.le
                  have hs135 := hx131.size
                  have hS136 := hS129.trans (hx131.mono hS129.size)
                  refine ⟨fun _ => hS136, ?_⟩
                  refine d_q (v := .bool (decide (((prt P (el es ((el row i))).1)) ≠ ((prt P (el es ((el row 0))).1))))) rfl rfl (fun _ => x_neq rfl rfl) ?_
                  refine d_done ?_
                  refine kn104 _ _ ?_
                  refine cnd (p := ((prt P (el es ((el row i))).1)) ≠ ((prt P (el es ((el row 0))).1))) rfl (fun h137 => ?_) (fun h137 => ?_)
                  ·
                    exact absurd h137 (not_not_intro (prt_of_pos hon))
                  ·
                    refine skip ?_
                    refine kn100 _ _ ?_
                    refine seqK fun Q138 kn139 kr140 ke141 => ?_
                    refine region ?_
                    refine st_q (v := .int .i64 ((0 : Nat) : Int)) (x_assign rfl) ?_
                    refine st_nil ?_
                    refine kn139 _ _ ?_
                    refine blockK fun Q142 kn143 kr144 kx145 kb146 => ?_
                    refine loopK (α := Nat) (fun x => [(0, .slice a es.length ca), (1, vp), (2, .slice b row.length cb), (7, .int .i64 ((i : Nat) : Int)), (9, .int .i64 ((x : Nat) : Int))]) (fun x w147 => Ext w130 w147 ∧ x ≤ i) (fun x => i - x) (0) ⟨rfl, rfl, rfl, rfl, rfl, trivial⟩ ?_ ?_
                    ·
                      refine ⟨Below.refl _ _, ?_⟩
                      try dsimp only
                      exact Nat.zero_le _
                    ·
                      rintro τ148 k w149 ⟨hx150, hk⟩
                      try dsimp only at hk
                      have hF151 := hx150.e hF132 (Nat.le_refl _)
                      have hE152 : Below w0.heap.size w0 w149 := hx150.e hE133 (Nat.le_refl _)
                      have hz153 := hE152.le
                      have hs154 := hx150.size
                      intro Q155 kn156 kr157 ke158
                      refine seqK fun Q159 kn160 kr161 ke162 => ?_
                      refine seqK fun Q163 kn164 kr165 ke166 => ?_
                      refine region ?_
                      refine st_q (v := .int .i64 ((k : Nat) : Int)) (x_move rfl) ?_
                      refine st_q (v := .int .i64 ((i : Nat) : Int)) (x_move rfl) ?_
                      refine st_q (v := .bool (decide (k < i))) (x_lssN rfl rfl) ?_
                      refine st_nil ?_
                      refine kn164 _ _ ?_
                      refine cnd (p := k < i) rfl (fun h167 => ?_) (fun h167 => ?_)
                      ·
                        refine skip ?_
                        refine kn160 _ _ ?_
                        refine seqK fun Q168 kn169 kr170 ke171 => ?_
                        refine blockK fun Q172 kn173 kr174 kx175 kb176 => ?_
                        refine seqK fun Q177 kn178 kr179 ke180 => ?_
                        refine regionD1 [4, 7, 12, 15] [0, 1, 2, 3, 4, 5, 6, 7, 8, 9, 10, 11, 12, 13, 14, 15, 16] (.one 0 (.one 1 (.one 2 (.one 3 (.one 4 (.one 5 (.one 6 (.one 7 (.one 8 (.one 9 (.one 10 (.one 11 (.one 12 (.one 13 (.one 14 (.one 15 (.one 16 .done))))))))))))))))) (by kernel_rfl) (by kernel_rfl) ?_
                        intro w181 hx182 hs183
                        have hF184 := hx182.e hF151 (Nat.le_refl _)
                        have hF185 := hx182.e hx150 (Nat.le_refl _)
                        have hE186 : Below w0.heap.size w0 w181 := hx182.e hE152 (Nat.le_refl _)
                        have hz187 := hE186.le
                        have hs188 := hx182.size
                        have hS189 : Ext w181 w181 := Below.refl _ _
                        have hl3 := hT.lt k (by omega)
                        have hdf := hT.dif k i (by omega) (by omega)
                        refine d_q (v := .slice a es.length ca) rfl rfl (fun _ => x_move rfl) ?_
                        refine d_q (v := .slice b row.length cb) rfl rfl (fun _ => x_move rfl) ?_
                        refine d_q (v := .int .i64 ((k : Nat) : Int)) rfl rfl (fun _ => x_move rfl) ?_
                        refine d_q (v := .pointer (some ⟨b60, o61 + k * 1, none⟩)) rfl rfl (fun _ => x_index' T.sl38 rfl ha62 rfl (by omega)) ?_
                        refine d_l (v := .int .i64 (((el row k) : Nat) : Int)) rfl rfl rfl (fun v191 hw190 => x_load1 T.na3 rfl (((hc63.below hE186).elem enN_len (i := k) (by omega)).ext hw190)) ?_
                        refine d_q (v := .pointer (some ⟨b90, o91 + ((el row k)) * 3, none⟩)) rfl rfl (fun _ => x_index' T.sl23 rfl ha92 rfl (by omega)) ?_
                        refine d_q (v := .pointer (some ⟨b90, o91 + ((el row k)) * 3, none⟩)) rfl rfl (fun _ => x_field (o := o91 + ((el row k)) * 3) T.fa47_0 rfl) ?_
                        refine d_l (v := .string ((el es ((el row k))).1)) rfl rfl rfl (fun v193 hw192 => x_load1 T.na9 rfl ((((hc93.below hE186).elem enE_len (i := (el row k)) (by omega)).fld 0 rfl).ext hw192)) ?_
                        refine d_q (v := .slice a es.length ca) rfl rfl (fun _ => x_move rfl) ?_
                        refine d_q (v := .slice b row.length cb) rfl rfl (fun _ => x_move rfl) ?_
                        refine d_q (v := .int .i64 ((i : Nat) : Int)) rfl rfl (fun _ => x_move rfl) ?_
                        refine d_q (v := .pointer (some ⟨b60, o61 + i * 1, none⟩)) rfl rfl (fun _ => x_index' T.sl38 rfl ha62 rfl (by omega)) ?_
                        refine d_l (v := .int .i64 (((el row i) : Nat) : Int)) rfl rfl rfl (fun v195 hw194 => x_load1 T.na3 rfl (((hc63.below hE186).elem enN_len (i := i) (by omega)).ext hw194)) ?_
                        refine d_q (v := .pointer (some ⟨b90, o91 + ((el row i)) * 3, none⟩)) rfl rfl (fun _ => x_index' T.sl23 rfl ha92 rfl (by omega)) ?_
                        refine d_q (v := .pointer (some ⟨b90, o91 + ((el row i)) * 3, none⟩)) rfl rfl (fun _ => x_field (o := o91 + ((el row i)) * 3) T.fa47_0 rfl) ?_
                        refine d_l (v := .string ((el es ((el row i))).1)) rfl rfl rfl (fun v197 hw196 => x_load1 T.na9 rfl ((((hc93.below hE186).elem enE_len (i := (el row i)) (by omega)).fld 0 rfl).ext hw196)) ?_
                        refine d_q (v := .bool (decide (((el es ((el row k))).1).toList = ((el es ((el row i))).1).toList))) rfl rfl (fun _ => x_eqlS rfl rfl) ?_
                        refine d_done ?_
                        refine kn178 _ _ ?_
                        refine cnd (p := ((el es ((el row k))).1).toList = ((el es ((el row i))).1).toList) rfl (fun h198 => ?_) (fun h198 => ?_)
                        ·
                          exact absurd h198 (fun e => hdf (bytes_ext e))
                        ·
                          refine skip ?_
                          refine kn173 _ _ ?_
                          refine kn169 _ _ ?_
                          refine region ?_
                          refine st_q (v := .int .i64 ((k : Nat) : Int)) (x_move rfl) ?_
                          refine st_q (v := .int .i64 (((k + 1) : Nat) : Int)) (x_addN rfl rfl (by omega)) ?_
                          refine st_q (v := .int .i64 (((k + 1) : Nat) : Int)) (x_assign rfl) ?_
                          refine st_nil ?_
                          refine kn156 _ ((k + 1)) _ ⟨rfl, rfl, rfl, rfl, rfl, trivial⟩ ⟨hF185, ?_⟩ ?_
                          ·
                            try dsimp only
                            exact (by omega)
                          ·
                            (try dsimp only); omega
                      ·
                        refine exit ?_
                        refine ke162 _ _ _ ?_
                        refine ke158 _ _ _ ?_
                        refine kb146 _ _ ?_
                        refine kn52 _ _ ?_
                        refine kn48 _ _ ?_
                        refine region ?_
                        refine st_q (v := .int .i64 ((i : Nat) : Int)) (x_move rfl) ?_
                        refine st_q (v := .int .i64 (((i + 1) : Nat) : Int)) (x_addN rfl rfl (by omega)) ?_
                        refine st_q (v := .int .i64 (((i + 1) : Nat) : Int)) (x_assign rfl) ?_
                        refine st_nil ?_
                        refine kn35 _ ((i + 1)) _ ⟨rfl, rfl, rfl, rfl, trivial⟩ ⟨hF151, ?_⟩ ?_
                        ·
                          try dsimp only
                          exact (by omega)
                        ·
                          (try dsimp only); omega
      ·
        refine exit ?_
        refine ke41 _ _ _ ?_
        refine ke37 _ _ _ ?_
        refine kb26 _ _ ?_
        refine kn15 _ _ ?_
        refine seqK fun Q199 kn200 kr201 ke202 => ?_
        refine region ?_
        have hne := hT.ne
        have hl4 := hT.lt 0 hT.ne
        refine st_q (v := .slice a es.length ca) (x_move rfl) ?_
        refine st_q (v := .slice b row.length cb) (x_move rfl) ?_
        obtain ⟨b203, o204, ha205, hc206⟩ := hb.at (by omega)
        refine st_q (v := .pointer (some ⟨b203, o204 + 0 * 1, none⟩)) (x_index' T.sl38 rfl ha205 rfl (by omega)) ?_
        refine st_q (v := .int .i64 (((el row 0) : Nat) : Int)) (x_load1 T.na3 rfl ((hc206.below hE31).elem enN_len (i := 0) (by omega))) ?_
        obtain ⟨b207, o208, ha209, hc210⟩ := ha.at (by omega)
        refine st_q (v := .pointer (some ⟨b207, o208 + ((el row 0)) * 3, none⟩)) (x_index' T.sl23 rfl ha209 rfl (by omega)) ?_
        refine st_q (v := .pointer (some ⟨b207, o208 + ((el row 0)) * 3 + 2, none⟩)) (x_field (o := o208 + ((el row 0)) * 3) T.fa47_2 rfl) ?_
        refine st_q (v := .bool ((el es ((el row 0))).2.2)) (x_load1 T.na4 rfl (((hc210.below hE31).elem enE_len (i := (el row 0)) (by omega)).fld 2 rfl)) ?_
        refine st_q (v := .bool ((el es ((el row 0))).2.2)) (x_assign rfl) ?_
        refine st_nil ?_
        refine kn200 _ _ ?_
        refine ret ?_
        refine leave1 (P := Try.prog) (fn := Try.f25) (t := 6) (v := .bool ((el es ((el row 0))).2.2)) rfl rfl ?_
        exact ⟨by rw [hT.neg], hE31⟩

set_option maxHeartbeats 4000000 in
theorem bars5 (xs : List ByteArray) (es : List Edge) (va vb : Value) (w0 : World) (ha : Src w0.heap va xs.length 1 (flat enS xs)) (hb : Src w0.heap vb es.length 3 (flat enE es)) (hfx : FitS xs) (hfe : FitE es) (hn1 : xs.length + 4 * es.length + 2 ≤ 1048576) : Calls Try.prog 5 #[va, vb] w0 fun e w' => e = .returned (.bool true) ∧ Below w0.heap.size w0 w' := by
  have hE0 : Below w0.heap.size w0 w0 := Below.refl _ _
  have hz0 := hE0.le
  obtain ⟨a, ca, rfl, hca, hca1⟩ := ha.form
  obtain ⟨b, cb, rfl, hcb, hcb1⟩ := hb.form
  have hn : xs.length + 2 * es.length ≤ 2097152 := by omega
  refine enter Try.func5 rfl 133 Try.ntmps5 rfl ?_
  refine seqK fun Q1 kn2 kr3 ke4 => ?_
  refine region ?_
  refine st_q (v := .bool false) (x_assign rfl) ?_
  refine st_nil ?_
  refine kn2 _ _ ?_
  refine seqK fun Q5 kn6 kr7 ke8 => ?_
  refine seqK fun Q9 kn10 kr11 ke12 => ?_
  refine region ?_
  refine st_c (t_call [] T.cf15 rfl rfl) (known15 _) ?_
  rintro _ w13 ⟨rfl, hx14⟩
  refine ⟨_, rfl, ?_⟩
  have hE15 : Below w0.heap.size w0 w13 := hx14.e hE0 (Nat.le_refl _)
  have hz16 := hE15.le
  have hs17 := hx14.size
  refine st_q (v := .bool false) (x_notB (b := true) rfl) ?_
  refine st_nil ?_
  refine kn10 _ _ ?_
  refine cndF rfl ?_
  refine skip ?_
  refine kn6 _ _ ?_
  refine seqK fun Q18 kn19 kr20 ke21 => ?_
  refine region ?_
  refine st_q (v := .slice a xs.length ca) (x_move rfl) ?_
  refine st_q (v := .slice b es.length cb) (x_move rfl) ?_
  have hends : ∀ k, k < es.length → (el es k).1 ∈ (nodesL xs es) ∧ (el es k).2.1 ∈ (nodesL xs es) := fun k hk => ⟨nodesL_mem.2 (.inr ⟨_, el_memE hk, .inl rfl⟩), nodesL_mem.2 (.inr ⟨_, el_memE hk, .inr rfl⟩)⟩
  refine st_c (t_call [.slice a xs.length ca, .slice b es.length cb] T.cf16 rfl rfl) (levels16 xs es _ _ _ (ha.below hE15) (hb.below hE15) hfx hfe hn) ?_
  rintro _ w22 (⟨hn26, rfl, hx23⟩ | ⟨hn26, v24, lev, rfl, hx23, hIs, hO25⟩)
  ·
    refine ⟨_, rfl, ?_⟩
    have hE27 : Below w0.heap.size w0 w22 := hx23.e hE15 (Nat.le_refl _)
    have hz28 := hE27.le
    have hs29 := hx23.size
    refine st_q (v := .tuple #[.slice none 0 0, .int .i64 ((15 : Nat) : Int)]) (x_move rfl) ?_
    refine st_q (v := .slice none 0 0) (x_extract rfl rfl) ?_
    refine st_q (v := .int .i64 ((15 : Nat) : Int)) (x_extract rfl rfl) ?_
    refine st_q (v := .slice none 0 0) (x_assign rfl) ?_
    refine st_q (v := .int .i64 ((15 : Nat) : Int)) (x_assign rfl) ?_
    refine st_nil ?_
    refine kn19 _ _ ?_
    refine seqK fun Q30 kn31 kr32 ke33 => ?_
    refine region ?_
    refine st_q (v := .slice b es.length cb) (x_move rfl) ?_
    refine st_c (t_call [.slice b es.length cb] T.cf18 rfl rfl) (cycle18 es _ _ (hb.below hE27) hfe (by omega)) ?_
    rintro _ w34 ⟨v36, row39, ok40, rfl, hx35, hC38, hO37⟩
    have hends0 : ∀ k, k < es.length → (el es k).1 ∈ nodesL [] es ∧ (el es k).2.1 ∈ nodesL [] es := fun k hk => ⟨nodesL_mem.2 (.inr ⟨_, el_memE hk, .inl rfl⟩), nodesL_mem.2 (.inr ⟨_, el_memE hk, .inr rfl⟩)⟩
    have hck := cyc_neg (nodesL_SX [] es) hends0 hC38
    obtain rfl : ok40 = true := hck.2 hn26
    obtain ⟨kb, kd, kl, rfl, hbst, htr⟩ := cyc_yes hC38
    refine ⟨_, rfl, ?_⟩
    have hE41 : Below w0.heap.size w0 w34 := hx35.e hE27 (Nat.le_refl _)
    have hz42 := hE41.le
    have hs43 := hx35.size
    obtain ⟨br, bc, rfl, _, _⟩ := hO37.src.form
    refine st_q (v := .tuple #[.slice br ((kb :: kl).length) bc, .bool true]) (x_move rfl) ?_
    refine st_q (v := .slice br ((kb :: kl).length) bc) (x_extract rfl rfl) ?_
    refine st_q (v := .bool true) (x_extract rfl rfl) ?_
    refine st_q (v := .slice br ((kb :: kl).length) bc) (x_assign rfl) ?_
    refine st_q (v := .bool true) (x_assign rfl) ?_
    refine st_nil ?_
    refine kn31 _ _ ?_
    refine seqK fun Q44 kn45 kr46 ke47 => ?_
    refine region ?_
    refine st_q (v := .slice a xs.length ca) (x_move rfl) ?_
    refine st_q (v := .slice b es.length cb) (x_move rfl) ?_
    refine st_c (t_call [.slice a xs.length ca, .slice b es.length cb] T.cf11 rfl rfl) (parts11 xs es _ _ _ (ha.below hE41) (hb.below hE41) hfx hfe hn) ?_
    rintro _ w48 ⟨v50, us, P, rfl, hx49, hG, hO51, hPI⟩
    refine ⟨_, rfl, ?_⟩
    have hF52 := hO37.ext hx49
    have hE53 : Below w0.heap.size w0 w48 := hx49.e hE41 (Nat.le_refl _)
    have hz54 := hE53.le
    have hs55 := hx49.size
    have hRI : RowsIn w48.heap v50 us P := RowsIn.of hO51 hPI
    have hEp : Ext w48 w48 := Below.refl _ _
    refine st_q (v := v50) (x_assign rfl) ?_
    refine st_nil ?_
    refine kn45 _ _ ?_
    refine seqK fun Q56 kn57 kr58 ke59 => ?_
    refine region ?_
    refine st_q (v := .bool false) (x_assign rfl) ?_
    refine st_nil ?_
    refine kn57 _ _ ?_
    refine seqK fun Q60 kn61 kr62 ke63 => ?_
    refine seqK fun Q64 kn65 kr66 ke67 => ?_
    refine region ?_
    refine st_q (v := .int .i64 ((0 : Nat) : Int)) (x_assign rfl) ?_
    refine st_nil ?_
    refine kn65 _ _ ?_
    refine blockK fun Q68 kn69 kr70 kx71 kb72 => ?_
    refine loopK (α := Nat × Bool) (fun x => [(1, .slice b es.length cb), (5, .slice none 0 0), (6, .int .i64 ((15 : Nat) : Int)), (7, .slice br ((kb :: kl).length) bc), (8, .bool true), (9, v50), (10, .bool x.2), (11, .int .i64 ((x.1 : Nat) : Int))]) (fun x w73 => Ext w48 w73 ∧ x.1 ≤ es.length ∧ (x.2 = true ↔ (False ∨ ∃ j, j < x.1 ∧ Bar es P j))) (fun x => es.length - x.1) (0, false) ⟨rfl, rfl, rfl, rfl, rfl, rfl, rfl, rfl, trivial⟩ ?_ ?_
    ·
      refine ⟨Below.refl _ _, ?_⟩
      try dsimp only
      exact ⟨Nat.zero_le _, fun h => (by cases h), fun h => h.elim False.elim fun ⟨j, hj, _⟩ => absurd hj (by omega)⟩
    ·
      rintro τ74 ⟨i, bar⟩ w75 ⟨hx76, ⟨hi, hbar⟩⟩
      try dsimp only at hi hbar
      have hF77 := hF52.ext hx76
      have hF78 := hx76.e hEp (Nat.le_refl _)
      have hE79 : Below w0.heap.size w0 w75 := hx76.e hE53 (Nat.le_refl _)
      have hz80 := hE79.le
      have hs81 := hx76.size
      intro Q82 kn83 kr84 ke85
      refine seqK fun Q86 kn87 kr88 ke89 => ?_
      refine seqK fun Q90 kn91 kr92 ke93 => ?_
      refine region ?_
      refine st_q (v := .int .i64 ((i : Nat) : Int)) (x_move rfl) ?_
      refine st_q (v := .slice b es.length cb) (x_move rfl) ?_
      refine st_q (v := .int .i64 ((es.length : Nat) : Int)) (x_lenSl rfl Try.underlying23 rfl) ?_
      refine st_q (v := .bool (decide (i < es.length))) (x_lssN rfl rfl) ?_
      refine st_nil ?_
      refine kn91 _ _ ?_
      refine cnd (p := i < es.length) rfl (fun h94 => ?_) (fun h94 => ?_)
      ·
        refine skip ?_
        refine kn87 _ _ ?_
        refine seqK fun Q95 kn96 kr97 ke98 => ?_
        refine blockK fun Q99 kn100 kr101 kx102 kb103 => ?_
        refine seqK fun Q104 kn105 kr106 ke107 => ?_
        refine region ?_
        have hi1 := (hends i (by omega)).1
        have hi2 := (hends i (by omega)).2
        have hpl : pos P (el es i).2.1 ≤ pos P (el es i).1 := hG.pos_le _ hi1 _ hi2 (Rch.one (el_memE (by omega)))
        refine st_q (v := .slice b es.length cb) (x_move rfl) ?_
        refine st_q (v := .int .i64 ((i : Nat) : Int)) (x_move rfl) ?_
        obtain ⟨b108, o109, ha110, hc111⟩ := hb.at (by omega)
        refine st_q (v := .pointer (some ⟨b108, o109 + i * 3, none⟩)) (x_index' T.sl23 rfl ha110 rfl (by omega)) ?_
        refine st_q (v := .agg #[.string ((el es i).1), .string ((el es i).2.1), .bool ((el es i).2.2)]) (x_loadA [.string ((el es i).1), .string ((el es i).2.1), .bool ((el es i).2.2)] T.ag47 rfl ((hc111.below hE79).elem enE_len (i := i) (by omega))) ?_
        refine st_e (e_alloc T.zv47 ?_)
        intro w112 hA113
        have hx114 := hA113.ext
        have hs115 := hA113.size
        have hB116 : Blk w112.heap w75.heap.size [.string ByteArray.empty, .string ByteArray.empty, .bool false] 47 := hA113.new
        have hF117 := hF77.ext hx114
        have hF118 := hx114.e hF78 (Nat.le_refl _)
        have hF119 := hx114.e hx76 (Nat.le_refl _)
        have hE120 : Below w0.heap.size w0 w112 := hx114.e hE79 (Nat.le_refl _)
        have hz121 := hE120.le
        have hs122 := hx114.size
        refine st_s (e_st (v := .agg #[.string ((el es i).1), .string ((el es i).2.1), .bool ((el es i).2.2)]) T.sz47 rfl rfl hB116 (by simp [Value.cells]) (by rfl) ?_)
        intro w123 hP124
        have hB125 : Blk w123.heap w75.heap.size [.string ((el es i).1), .string ((el es i).2.1), .bool ((el es i).2.2)] 47 := hP124.new
        have hs126 := hP124.size
        have hF127 := hF117.gk (hP124.grownBy) (hB116.rowk) (by decide)
        have hF128 := hP124.below hF118 (by omega)
        have hF129 := hP124.below hF119 (by omega)
        have hE130 : Below w0.heap.size w0 w123 := hP124.below hE120 (by omega)
        have hz131 := hE130.le
        refine st_nil ?_
        refine kn105 _ _ ?_
        refine seqK fun Q132 kn133 kr134 ke135 => ?_
        refine regionD1 [2, 6] [0, 1, 2, 4, 5, 6, 8, 9] (.one 0 (.one 1 (.one 2 (.one 4 (.one 5 (.one 6 (.one 3 (.one 7 (.one 8 (.one 9 .done)))))))))) (by kernel_rfl) (by kernel_rfl) ?_
        intro w136 hx137 hs138
        have hB139 := hB125.ext hx137
        have hF140 := hF127.ext hx137
        have hF141 := hx137.e hF128 (Nat.le_refl _)
        have hF142 := hx137.e hF129 (Nat.le_refl _)
        have hE143 : Below w0.heap.size w0 w136 := hx137.e hE130 (Nat.le_refl _)
        have hz144 := hE143.le
        have hs145 := hx137.size
        have hS146 : Ext w136 w136 := Below.refl _ _
        refine d_q (v := v50) rfl rfl (fun _ => x_move rfl) ?_
        refine d_q (v := .pointer (some ⟨w75.heap.size, 0, none⟩)) rfl rfl (fun _ => x_field (o := 0) T.fa47_0 rfl) ?_
        refine d_l (v := .string ((el es i).1)) rfl rfl rfl (fun v148 hw147 => x_load1 T.na9 rfl ((hB139.one 0 rfl).ext hw147)) ?_
        refine d_q (v := v50) rfl rfl (fun _ => x_move rfl) ?_
        refine d_q (v := .pointer (some ⟨w75.heap.size, 1, none⟩)) rfl rfl (fun _ => x_field (o := 0) T.fa47_1 rfl) ?_
        refine d_l (v := .string ((el es i).2.1)) rfl rfl rfl (fun v150 hw149 => x_load1 T.na9 rfl ((hB139.one 1 rfl).ext hw149)) ?_
        refine d_e (by decide) (d_c' rfl rfl (t_call [v50, .string ((el es i).1)] T.cf23 rfl rfl) (part23 P us (el es i).1 _ _ (RowsIn.below hRI hF141)) ?_)
        rintro _ w151 ⟨e153, hx152⟩
        rw [prt_pos (hG.pos_lt _ hi1)] at e153
        subst e153
        refine ⟨_, rfl, ?_⟩
        have hB154 := hB139.ext hx152
        have hF155 := hF140.ext hx152
        have hF156 := hx152.e hF141 (Nat.le_refl _)
        have hF157 := hx152.e hF142 (Nat.le_refl _)
        have hE158 : Below w0.heap.size w0 w151 := hx152.e hE143 (Nat.le_refl _)
        have hz159 := hE158.le
        have hs160 := hx152.size
        have hS161 := hS146.trans (hx152.mono hS146.size)
        refine ⟨fun _ => hS161, ?_⟩
        refine d_e (by decide) (d_c' rfl rfl (t_call [v50, .string ((el es i).2.1)] T.cf23 rfl rfl) (part23 P us (el es i).2.1 _ _ (RowsIn.below hRI hF156)) ?_)
        rintro _ w162 ⟨e164, hx163⟩
        rw [prt_pos (hG.pos_lt _ hi2)] at e164
        subst e164
        refine ⟨_, rfl, ?_⟩
        have hB165 := hB154.ext hx163
        have hF166 := hF155.ext hx163
        have hF167 := hx163.e hF156 (Nat.le_refl _)
        have hF168 := hx163.e hF157 (Nat.le_refl _)
        have hE169 : Below w0.heap.size w0 w162 := hx163.e hE158 (Nat.le_refl _)
        have hz170 := hE169.le
        have hs171 := hx163.size
        have hS172 := hS161.trans (hx163.mono hS161.size)
        refine ⟨fun _ => hS172, ?_⟩
        refine d_q (v := .int .i64 (((pos P (el es i).1) : Nat) : Int)) rfl rfl (fun _ => x_assign rfl) ?_
        refine d_q (v := .int .i64 (((pos P (el es i).2.1) : Nat) : Int)) rfl rfl (fun _ => x_assign rfl) ?_
        refine d_done ?_
        refine kn133 _ _ ?_
        refine seqK fun Q173 kn174 kr175 ke176 => ?_
        refine seqK fun Q177 kn178 kr179 ke180 => ?_
        refine region ?_
        refine st_q (v := .int .i64 (((pos P (el es i).1) : Nat) : Int)) (x_move rfl) ?_
        refine st_q (v := .bool (decide (((pos P (el es i).1)) < 0))) (x_lssN rfl rfl) ?_
        refine st_if (p := ((pos P (el es i).1)) < 0) (x_move rfl) (fun h181 => ?_) (fun h181 => ?_)
        ·
          exact absurd h181 (by omega)
        ·
          refine st_gq 2 52 rfl rfl (by decide) ?_
          refine st_q (v := .int .i64 (((pos P (el es i).2.1) : Nat) : Int)) (x_move rfl) ?_
          refine st_gq 2 52 rfl rfl (by decide) ?_
          refine st_q (v := .bool (decide (((pos P (el es i).2.1)) < 0))) (x_lssN rfl rfl) ?_
          refine st_q (v := .bool (decide (((pos P (el es i).2.1)) < 0))) (x_pickF rfl rfl) ?_
          refine st_if (p := ((pos P (el es i).2.1)) < 0) (x_move rfl) (fun h182 => ?_) (fun h182 => ?_)
          ·
            exact absurd h182 (by omega)
          ·
            refine st_gq 6 56 rfl rfl (by decide) ?_
            refine st_q (v := .int .i64 (((pos P (el es i).1) : Nat) : Int)) (x_move rfl) ?_
            refine st_gq 6 56 rfl rfl (by decide) ?_
            refine st_q (v := .int .i64 (((pos P (el es i).2.1) : Nat) : Int)) (x_move rfl) ?_
            refine st_gq 6 56 rfl rfl (by decide) ?_
            refine st_q (v := .bool (decide (((pos P (el es i).1)) < ((pos P (el es i).2.1))))) (x_lssN rfl rfl) ?_
            refine st_q (v := .bool (decide (((pos P (el es i).1)) < ((pos P (el es i).2.1))))) (x_pickF rfl rfl) ?_
            refine st_nil ?_
            refine kn178 _ _ ?_
            refine cnd (p := ((pos P (el es i).1)) < ((pos P (el es i).2.1))) rfl (fun h183 => ?_) (fun h183 => ?_)
            ·
              exact absurd h183 (by omega)
            ·
              refine skip ?_
              refine kn174 _ _ ?_
              refine seqLK (n := 133) (ds := []) (α := Bool) (fun x => [(1, .slice b es.length cb), (5, .slice none 0 0), (6, .int .i64 ((15 : Nat) : Int)), (7, .slice br ((kb :: kl).length) bc), (8, .bool true), (9, v50), (10, .bool x), (11, .int .i64 ((i : Nat) : Int)), (12, .pointer (some ⟨w75.heap.size, 0, none⟩)), (13, .int .i64 (((pos P (el es i).1) : Nat) : Int)), (14, .int .i64 (((pos P (el es i).2.1) : Nat) : Int))]) (fun x w184 => Ext w162 w184 ∧ (x = true ↔ bar = true ∨ Bar es P i)) ?_ ?_
              ·
                have hx185 : Ext w162 w162 := Below.refl _ _
                intro Q186 kn187 kr188 ke189
                refine region ?_
                refine st_q (v := .bool bar) (x_move rfl) ?_
                refine st_if (p := bar = true) (x_moveBB rfl) (fun h190 => ?_) (fun h190 => ?_)
                ·
                  refine st_gn 1 62 rfl rfl (by decide) rfl ?_
                  refine st_gn 1 62 rfl rfl (by decide) rfl ?_
                  refine st_gn 1 62 rfl rfl (by decide) rfl ?_
                  refine st_gu 4 65 rfl rfl (by decide) ?_
                  refine st_gu 4 65 rfl rfl (by decide) ?_
                  refine st_gu 4 65 rfl rfl (by decide) ?_
                  refine st_gn 1 62 rfl rfl (by decide) rfl ?_
                  refine st_q (v := .bool true) (x_pickT rfl rfl) ?_
                  refine st_q (v := .bool true) (x_assign rfl) ?_
                  refine st_nil ?_
                  refine kn187 _ (true) _ ⟨rfl, rfl, rfl, rfl, rfl, rfl, rfl, rfl, rfl, rfl, rfl, trivial⟩ ⟨hx185, ?_⟩
                  try dsimp only
                  exact ⟨fun _ => .inl (by assumption), fun _ => rfl⟩
                ·
                  refine st_gq 1 62 rfl rfl (by decide) ?_
                  refine st_q (v := .pointer (some ⟨w75.heap.size, 2, none⟩)) (x_field (o := 0) T.fa47_2 rfl) ?_
                  refine st_gq 1 62 rfl rfl (by decide) ?_
                  refine st_q (v := .bool ((el es i).2.2)) (x_load1 T.na4 rfl (hB165.one 2 rfl)) ?_
                  refine st_gq 1 62 rfl rfl (by decide) ?_
                  refine st_if (p := (el es i).2.2 = true) (x_moveBB rfl) (fun h191 => ?_) (fun h191 => ?_)
                  ·
                    refine st_gq 4 65 rfl rfl (by decide) ?_
                    refine st_q (v := .int .i64 (((pos P (el es i).1) : Nat) : Int)) (x_move rfl) ?_
                    refine st_gq 4 65 rfl rfl (by decide) ?_
                    refine st_q (v := .int .i64 (((pos P (el es i).2.1) : Nat) : Int)) (x_move rfl) ?_
                    refine st_gq 4 65 rfl rfl (by decide) ?_
                    refine st_q (v := .bool (decide (((pos P (el es i).1)) = ((pos P (el es i).2.1))))) (x_eqlN rfl rfl) ?_
                    refine st_gq 1 62 rfl rfl (by decide) ?_
                    refine st_q (v := .bool (decide (((pos P (el es i).1)) = ((pos P (el es i).2.1))))) (x_pickT rfl rfl) ?_
                    refine st_q (v := .bool (decide (((pos P (el es i).1)) = ((pos P (el es i).2.1))))) (x_pickF rfl rfl) ?_
                    refine st_q (v := .bool (decide (((pos P (el es i).1)) = ((pos P (el es i).2.1))))) (x_assign rfl) ?_
                    refine st_nil ?_
                    refine kn187 _ ((decide (((pos P (el es i).1)) = ((pos P (el es i).2.1))))) _ ⟨rfl, rfl, rfl, rfl, rfl, rfl, rfl, rfl, rfl, rfl, rfl, trivial⟩ ⟨hx185, ?_⟩
                    try dsimp only
                    exact ⟨fun h => .inr ⟨by assumption, of_decide_eq_true h⟩, fun h => h.elim (fun h => absurd h (by assumption)) (fun q => decide_eq_true q.2)⟩
                  ·
                    refine st_gn 4 65 rfl rfl (by decide) rfl ?_
                    refine st_gn 4 65 rfl rfl (by decide) rfl ?_
                    refine st_gn 4 65 rfl rfl (by decide) rfl ?_
                    refine st_gq 1 62 rfl rfl (by decide) ?_
                    refine st_q (v := .bool false) (x_pickF rfl rfl) ?_
                    refine st_q (v := .bool false) (x_pickF rfl rfl) ?_
                    refine st_q (v := .bool false) (x_assign rfl) ?_
                    refine st_nil ?_
                    refine kn187 _ (false) _ ⟨rfl, rfl, rfl, rfl, rfl, rfl, rfl, rfl, rfl, rfl, rfl, trivial⟩ ⟨hx185, ?_⟩
                    try dsimp only
                    exact ⟨fun h => (by cases h), fun h => h.elim (fun h => absurd h (by assumption)) (fun q => absurd q.1 (by assumption))⟩
              ·
                rintro τ192 bar2 w193 ⟨hx194, hb2⟩
                try dsimp only at hb2
                have hB195 := hB165.ext hx194
                have hF196 := hF166.ext hx194
                have hF197 := hx194.e hF167 (Nat.le_refl _)
                have hF198 := hx194.e hF168 (Nat.le_refl _)
                have hE199 : Below w0.heap.size w0 w193 := hx194.e hE169 (Nat.le_refl _)
                have hz200 := hE199.le
                have hs201 := hx194.size
                refine seqK fun Q202 kn203 kr204 ke205 => ?_
                refine region ?_
                refine st_q (v := .slice none 0 0) (x_move rfl) ?_
                refine st_q (v := .pointer (some ⟨w75.heap.size, 1, none⟩)) (x_field (o := 0) T.fa47_1 rfl) ?_
                refine st_q (v := .string ((el es i).2.1)) (x_load1 T.na9 rfl (hB195.one 1 rfl)) ?_
                refine st_c (t_call [.slice none 0 0, .string ((el es i).2.1)] T.cf24 rfl rfl) (level24 [] (el es i).2.1 _ _ (Src.nil _ _)) ?_
                rintro _ w206 ⟨e208, hx207⟩
                subst e208
                refine ⟨_, rfl, ?_⟩
                have hB209 := hB195.ext hx207
                have hF210 := hF196.ext hx207
                have hF211 := hx207.e hF197 (Nat.le_refl _)
                have hF212 := hx207.e hF198 (Nat.le_refl _)
                have hE213 : Below w0.heap.size w0 w206 := hx207.e hE199 (Nat.le_refl _)
                have hz214 := hE213.le
                have hs215 := hx207.size
                refine st_q (v := .int .i64 ((-1))) (x_assign rfl) ?_
                refine st_nil ?_
                refine kn203 _ _ ?_
                refine seqK fun Q216 kn217 kr218 ke219 => ?_
                refine seqK fun Q220 kn221 kr222 ke223 => ?_
                refine region ?_
                refine st_q (v := .pointer (some ⟨w75.heap.size, 2, none⟩)) (x_field (o := 0) T.fa47_2 rfl) ?_
                refine st_q (v := .bool ((el es i).2.2)) (x_load1 T.na4 rfl (hB209.one 2 rfl)) ?_
                refine st_nil ?_
                refine kn221 _ _ ?_
                refine cndB (b := (el es i).2.2) rfl (fun h224 => ?_) (fun h224 => ?_)
                ·
                  refine region ?_
                  refine st_q (v := .int .i64 ((-1))) (x_move rfl) ?_
                  refine st_q (v := .int .i64 (((-1) + 1))) (x_add rfl rfl ⟨by omega, by omega⟩) ?_
                  refine st_q (v := .int .i64 (((-1) + 1))) (x_assign rfl) ?_
                  refine st_nil ?_
                  refine kn217 _ _ ?_
                  refine seqK fun Q225 kn226 kr227 ke228 => ?_
                  refine regionD1 [6, 17, 21] [0, 2, 3, 4, 5, 6, 8, 9, 10, 11, 12, 13, 14, 15, 16, 17, 19, 20, 21, 23, 24, 25, 26] (.one 0 (.one 1 (.one 2 (.one 3 (.one 4 (.one 5 (.one 6 (.one 8 (.one 7 (.one 9 (.one 10 (.one 11 (.one 12 (.one 13 (.one 14 (.one 15 (.one 16 (.one 17 (.one 19 (.one 20 (.one 21 (.one 18 (.one 22 (.one 23 (.one 24 (.one 25 (.one 26 .done))))))))))))))))))))))))))) (by kernel_rfl) (by kernel_rfl) ?_
                  intro w229 hx230 hs231
                  have hB232 := hB209.ext hx230
                  have hF233 := hF210.ext hx230
                  have hF234 := hx230.e hF211 (Nat.le_refl _)
                  have hF235 := hx230.e hF212 (Nat.le_refl _)
                  have hE236 : Below w0.heap.size w0 w229 := hx230.e hE213 (Nat.le_refl _)
                  have hz237 := hE236.le
                  have hs238 := hx230.size
                  have hS239 : Ext w229 w229 := Below.refl _ _
                  refine d_q (v := .int .i64 ((15 : Nat) : Int)) rfl rfl (fun _ => x_move rfl) ?_
                  refine d_e (by decide) (d_c' rfl rfl (t_call [.int .i64 ((15 : Nat) : Int)] T.cf21 rfl rfl) (num21 15 _) ?_)
                  rintro _ _ ⟨rfl, rfl⟩
                  refine ⟨_, rfl, ?_⟩
                  have hS240 := hS239
                  refine ⟨fun _ => hS240, ?_⟩
                  refine d_q (v := .bool (decide (15 = 0))) rfl rfl (fun _ => x_eqlN rfl rfl) ?_
                  refine d_if rfl rfl (p := 15 = 0) (fun _ => x_move rfl) (fun h241 => ?_) (fun h241 => ?_)
                  ·
                    exact absurd h241 (by decide)
                  ·
                    refine d_gn (j := 3) (t := 82) rfl rfl rfl rfl (by decide) rfl ?_
                    refine d_gn (j := 3) (t := 82) rfl rfl rfl rfl (by decide) rfl ?_
                    refine d_gn (j := 3) (t := 82) rfl rfl rfl rfl (by decide) rfl ?_
                    refine d_gn (j := 3) (t := 82) rfl rfl rfl rfl (by decide) rfl ?_
                    refine d_e (by decide) (wpE_skip (j := 3) (t := 82) rfl rfl rfl (by decide) rfl (fun _ => hS240) ?_)
                    refine d_gn (j := 3) (t := 82) rfl rfl rfl rfl (by decide) rfl ?_
                    refine d_gn (j := 3) (t := 82) rfl rfl rfl rfl (by decide) rfl ?_
                    refine d_gu (j := 10) (t := 89) rfl rfl rfl rfl (by decide) ?_
                    refine d_gu (j := 10) (t := 89) rfl rfl rfl rfl (by decide) ?_
                    refine d_gu (j := 10) (t := 89) rfl rfl rfl rfl (by decide) ?_
                    refine d_gu (j := 10) (t := 89) rfl rfl rfl rfl (by decide) ?_
                    refine d_gu (j := 14) (t := 93) rfl rfl rfl rfl (by decide) ?_
                    refine d_gu (j := 14) (t := 93) rfl rfl rfl rfl (by decide) ?_
                    refine d_gu (j := 14) (t := 93) rfl rfl rfl rfl (by decide) ?_
                    refine d_gu (j := 14) (t := 93) rfl rfl rfl rfl (by decide) ?_
                    refine d_gu (j := 14) (t := 93) rfl rfl rfl rfl (by decide) ?_
                    refine d_gu (j := 14) (t := 93) rfl rfl rfl rfl (by decide) ?_
                    refine d_e (by decide) (wpE_undef (j := 14) (t := 93) rfl rfl rfl (by decide) (fun _ => hS240) ?_)
                    refine d_e (by decide) (wpE_undef (j := 14) (t := 93) rfl rfl rfl (by decide) (fun _ => hS240) ?_)
                    refine d_gu (j := 14) (t := 93) rfl rfl rfl rfl (by decide) ?_
                    refine d_gu (j := 10) (t := 89) rfl rfl rfl rfl (by decide) ?_
                    refine d_gn (j := 3) (t := 82) rfl rfl rfl rfl (by decide) rfl ?_
                    refine d_q (v := .bool false) rfl rfl (fun _ => x_pickF rfl rfl) ?_
                    refine d_done ?_
                    refine kn226 _ _ ?_
                    refine cndF rfl ?_
                    refine skip ?_
                    refine kn100 _ _ ?_
                    refine kn96 _ _ ?_
                    refine region ?_
                    refine st_q (v := .int .i64 ((i : Nat) : Int)) (x_move rfl) ?_
                    refine st_q (v := .int .i64 (((i + 1) : Nat) : Int)) (x_addN rfl rfl (by omega)) ?_
                    refine st_q (v := .int .i64 (((i + 1) : Nat) : Int)) (x_assign rfl) ?_
                    refine st_nil ?_
                    refine kn83 _ ((i + 1), bar2) _ ⟨rfl, rfl, rfl, rfl, rfl, rfl, rfl, rfl, trivial⟩ ⟨hF235, ?_⟩ ?_
                    ·
                      try dsimp only
                      exact ⟨by omega, some_step hbar hb2⟩
                    ·
                      (try dsimp only); omega
                ·
                  refine skip ?_
                  refine kn217 _ _ ?_
                  refine seqK fun Q242 kn243 kr244 ke245 => ?_
                  refine regionD1 [6, 17, 21] [0, 2, 3, 4, 5, 6, 8, 9, 10, 11, 12, 13, 14, 15, 16, 17, 19, 20, 21, 23, 24, 25, 26] (.one 0 (.one 1 (.one 2 (.one 3 (.one 4 (.one 5 (.one 6 (.one 8 (.one 7 (.one 9 (.one 10 (.one 11 (.one 12 (.one 13 (.one 14 (.one 15 (.one 16 (.one 17 (.one 19 (.one 20 (.one 21 (.one 18 (.one 22 (.one 23 (.one 24 (.one 25 (.one 26 .done))))))))))))))))))))))))))) (by kernel_rfl) (by kernel_rfl) ?_
                  intro w246 hx247 hs248
                  have hB249 := hB209.ext hx247
                  have hF250 := hF210.ext hx247
                  have hF251 := hx247.e hF211 (Nat.le_refl _)
                  have hF252 := hx247.e hF212 (Nat.le_refl _)
                  have hE253 : Below w0.heap.size w0 w246 := hx247.e hE213 (Nat.le_refl _)
                  have hz254 := hE253.le
                  have hs255 := hx247.size
                  have hS256 : Ext w246 w246 := Below.refl _ _
                  refine d_q (v := .int .i64 ((15 : Nat) : Int)) rfl rfl (fun _ => x_move rfl) ?_
                  refine d_e (by decide) (d_c' rfl rfl (t_call [.int .i64 ((15 : Nat) : Int)] T.cf21 rfl rfl) (num21 15 _) ?_)
                  rintro _ _ ⟨rfl, rfl⟩
                  refine ⟨_, rfl, ?_⟩
                  have hS257 := hS256
                  refine ⟨fun _ => hS257, ?_⟩
                  refine d_q (v := .bool (decide (15 = 0))) rfl rfl (fun _ => x_eqlN rfl rfl) ?_
                  refine d_if rfl rfl (p := 15 = 0) (fun _ => x_move rfl) (fun h258 => ?_) (fun h258 => ?_)
                  ·
                    exact absurd h258 (by decide)
                  ·
                    refine d_gn (j := 3) (t := 82) rfl rfl rfl rfl (by decide) rfl ?_
                    refine d_gn (j := 3) (t := 82) rfl rfl rfl rfl (by decide) rfl ?_
                    refine d_gn (j := 3) (t := 82) rfl rfl rfl rfl (by decide) rfl ?_
                    refine d_gn (j := 3) (t := 82) rfl rfl rfl rfl (by decide) rfl ?_
                    refine d_e (by decide) (wpE_skip (j := 3) (t := 82) rfl rfl rfl (by decide) rfl (fun _ => hS257) ?_)
                    refine d_gn (j := 3) (t := 82) rfl rfl rfl rfl (by decide) rfl ?_
                    refine d_gn (j := 3) (t := 82) rfl rfl rfl rfl (by decide) rfl ?_
                    refine d_gu (j := 10) (t := 89) rfl rfl rfl rfl (by decide) ?_
                    refine d_gu (j := 10) (t := 89) rfl rfl rfl rfl (by decide) ?_
                    refine d_gu (j := 10) (t := 89) rfl rfl rfl rfl (by decide) ?_
                    refine d_gu (j := 10) (t := 89) rfl rfl rfl rfl (by decide) ?_
                    refine d_gu (j := 14) (t := 93) rfl rfl rfl rfl (by decide) ?_
                    refine d_gu (j := 14) (t := 93) rfl rfl rfl rfl (by decide) ?_
                    refine d_gu (j := 14) (t := 93) rfl rfl rfl rfl (by decide) ?_
                    refine d_gu (j := 14) (t := 93) rfl rfl rfl rfl (by decide) ?_
                    refine d_gu (j := 14) (t := 93) rfl rfl rfl rfl (by decide) ?_
                    refine d_gu (j := 14) (t := 93) rfl rfl rfl rfl (by decide) ?_
                    refine d_e (by decide) (wpE_undef (j := 14) (t := 93) rfl rfl rfl (by decide) (fun _ => hS257) ?_)
                    refine d_e (by decide) (wpE_undef (j := 14) (t := 93) rfl rfl rfl (by decide) (fun _ => hS257) ?_)
                    refine d_gu (j := 14) (t := 93) rfl rfl rfl rfl (by decide) ?_
                    refine d_gu (j := 10) (t := 89) rfl rfl rfl rfl (by decide) ?_
                    refine d_gn (j := 3) (t := 82) rfl rfl rfl rfl (by decide) rfl ?_
                    refine d_q (v := .bool false) rfl rfl (fun _ => x_pickF rfl rfl) ?_
                    refine d_done ?_
                    refine kn243 _ _ ?_
                    refine cndF rfl ?_
                    refine skip ?_
                    refine kn100 _ _ ?_
                    refine kn96 _ _ ?_
                    refine region ?_
                    refine st_q (v := .int .i64 ((i : Nat) : Int)) (x_move rfl) ?_
                    refine st_q (v := .int .i64 (((i + 1) : Nat) : Int)) (x_addN rfl rfl (by omega)) ?_
                    refine st_q (v := .int .i64 (((i + 1) : Nat) : Int)) (x_assign rfl) ?_
                    refine st_nil ?_
                    refine kn83 _ ((i + 1), bar2) _ ⟨rfl, rfl, rfl, rfl, rfl, rfl, rfl, rfl, trivial⟩ ⟨hF252, ?_⟩ ?_
                    ·
                      try dsimp only
                      exact ⟨by omega, some_step hbar hb2⟩
                    ·
                      (try dsimp only); omega
      ·
        refine exit ?_
        refine ke89 _ _ _ ?_
        refine ke85 _ _ _ ?_
        refine kb72 _ _ ?_
        refine kn61 _ _ ?_
        refine seqK fun Q259 kn260 kr261 ke262 => ?_
        refine seqK fun Q263 kn264 kr265 ke266 => ?_
        refine region ?_
        have ei : i = es.length := by omega
        have hbb : bar = true ↔ NegLoop es := by rw [hbar, false_or, ei]; exact bar_iff hG hends
        obtain rfl : bar = true := hbb.2 hn26
        refine st_q (v := .bool true) (x_move rfl) ?_
        refine st_q (v := .bool true) (x_move rfl) ?_
        refine st_q (v := .bool (decide (¬ ((True) ↔ (True))))) (x_neqB Try.underlying4 rfl rfl) ?_
        refine st_if (p := ¬ ((True) ↔ (True))) (x_move rfl) (fun h267 => ?_) (fun h267 => ?_)
        ·
          exact absurd h267 (not_not_intro Iff.rfl)
        ·
          refine st_gq 3 109 rfl rfl (by decide) ?_
          refine st_q (v := .int .i64 ((15 : Nat) : Int)) (x_move rfl) ?_
          refine st_gq 3 109 rfl rfl (by decide) ?_
          refine st_c (t_call [.int .i64 ((15 : Nat) : Int)] T.cf21 rfl rfl) (num21 15 _) ?_
          rintro _ _ ⟨rfl, rfl⟩
          refine ⟨_, rfl, ?_⟩
          refine st_gq 3 109 rfl rfl (by decide) ?_
          refine st_q (v := .bool (decide (15 = 0))) (x_eqlN rfl rfl) ?_
          refine st_gq 3 109 rfl rfl (by decide) ?_
          refine st_q (v := .bool true) (x_move rfl) ?_
          refine st_gq 3 109 rfl rfl (by decide) ?_
          refine st_q (v := .bool (decide ((15 = 0) ↔ (True)))) (x_eqlB Try.underlying4 rfl rfl) ?_
          refine st_q (v := .bool (decide ((15 = 0) ↔ (True)))) (x_pickF rfl rfl) ?_
          refine st_if (p := (15 = 0) ↔ (True)) (x_move rfl) (fun h268 => ?_) (fun h268 => ?_)
          ·
            exact absurd h268 (by decide)
          ·
            refine st_gq 10 116 rfl rfl (by decide) ?_
            refine st_q (v := .bool true) (x_move rfl) ?_
            refine st_gq 10 116 rfl rfl (by decide) ?_
            refine st_q (v := .bool true) (x_move rfl) ?_
            refine st_gq 12 118 rfl rfl (by decide) ?_
            refine st_q (v := .int .i64 ((15 : Nat) : Int)) (x_move rfl) ?_
            refine st_gq 12 118 rfl rfl (by decide) ?_
            refine st_c (t_call [.int .i64 ((15 : Nat) : Int)] T.cf21 rfl rfl) (num21 15 _) ?_
            rintro _ _ ⟨rfl, rfl⟩
            refine ⟨_, rfl, ?_⟩
            refine st_gq 12 118 rfl rfl (by decide) ?_
            refine st_q (v := .bool (decide (15 ≠ 15))) (x_neqN rfl rfl) ?_
            refine st_gq 10 116 rfl rfl (by decide) ?_
            refine st_q (v := .bool (decide (15 ≠ 15))) (x_pickT rfl rfl) ?_
            refine st_q (v := .bool (decide (15 ≠ 15))) (x_pickF rfl rfl) ?_
            refine st_nil ?_
            refine kn264 _ _ ?_
            refine cnd (p := 15 ≠ 15) rfl (fun h269 => ?_) (fun h269 => ?_)
            ·
              exact absurd h269 (not_not_intro rfl)
            ·
              refine skip ?_
              refine kn260 _ _ ?_
              refine seqK fun Q270 kn271 kr272 ke273 => ?_
              refine seqK fun Q274 kn275 kr276 ke277 => ?_
              refine region ?_
              refine st_q (v := .bool true) (x_move rfl) ?_
              refine st_q (v := .bool false) (x_notB (b := true) rfl) ?_
              refine st_nil ?_
              refine kn275 _ _ ?_
              refine cndF rfl ?_
              refine skip ?_
              refine kn271 _ _ ?_
              refine seqK fun Q278 kn279 kr280 ke281 => ?_
              refine region ?_
              refine st_q (v := .slice b es.length cb) (x_move rfl) ?_
              refine st_q (v := v50) (x_move rfl) ?_
              refine st_q (v := .slice br ((kb :: kl).length) bc) (x_move rfl) ?_
              refine st_c (t_call [.slice b es.length cb, v50, .slice br ((kb :: kl).length) bc] T.cf25 rfl rfl) (trip25 es P us (kb :: kl) _ _ _ _ (hb.below hE79) (RowsIn.below hRI hF78) hF77.src (trip_ok (nodesL_SX [] es) hends0 hends hG hbst htr)) ?_
              rintro _ w282 ⟨rfl, hx283⟩
              refine ⟨_, rfl, ?_⟩
              have hF284 := hF77.ext hx283
              have hF285 := hx283.e hF78 (Nat.le_refl _)
              have hF286 := hx283.e hx76 (Nat.le_refl _)
              have hE287 : Below w0.heap.size w0 w282 := hx283.e hE79 (Nat.le_refl _)
              have hz288 := hE287.le
              have hs289 := hx283.size
              refine st_q (v := .bool true) (x_assign rfl) ?_
              refine st_nil ?_
              refine kn279 _ _ ?_
              refine ret ?_
              refine leave1 (P := Try.prog) (fn := Try.f5) (t := 4) (v := .bool true) rfl rfl ?_
              exact ⟨rfl, hE287⟩
  ·
    refine ⟨_, rfl, ?_⟩
    have hE290 : Below w0.heap.size w0 w22 := hx23.e hE15 (Nat.le_refl _)
    have hz291 := hE290.le
    have hs292 := hx23.size
    have hbnd : ∀ s, s ∈ (nodesL xs es) → lev s ≤ (nodesL xs es).length := fun s hs => hIs.bnd (fun e he => ⟨nodesL_mem.2 (.inr ⟨e, he, .inl rfl⟩), nodesL_mem.2 (.inr ⟨e, he, .inr rfl⟩)⟩) hs
    have hnl := nodesL_len xs es
    have hrkl := ranksOf_len (nodesL xs es) lev
    obtain ⟨ar, cr, rfl, _, _⟩ := hO25.src.form
    refine st_q (v := .tuple #[.slice ar ((nodesL xs es).length) cr, .int .i64 ((0 : Nat) : Int)]) (x_move rfl) ?_
    refine st_q (v := .slice ar ((nodesL xs es).length) cr) (x_extract rfl rfl) ?_
    refine st_q (v := .int .i64 ((0 : Nat) : Int)) (x_extract rfl rfl) ?_
    refine st_q (v := .slice ar ((nodesL xs es).length) cr) (x_assign rfl) ?_
    refine st_q (v := .int .i64 ((0 : Nat) : Int)) (x_assign rfl) ?_
    refine st_nil ?_
    refine kn19 _ _ ?_
    refine seqK fun Q293 kn294 kr295 ke296 => ?_
    refine region ?_
    refine st_q (v := .slice b es.length cb) (x_move rfl) ?_
    refine st_c (t_call [.slice b es.length cb] T.cf18 rfl rfl) (cycle18 es _ _ (hb.below hE290) hfe (by omega)) ?_
    rintro _ w297 ⟨v299, row302, ok303, rfl, hx298, hC301, hO300⟩
    have hends0 : ∀ k, k < es.length → (el es k).1 ∈ nodesL [] es ∧ (el es k).2.1 ∈ nodesL [] es := fun k hk => ⟨nodesL_mem.2 (.inr ⟨_, el_memE hk, .inl rfl⟩), nodesL_mem.2 (.inr ⟨_, el_memE hk, .inr rfl⟩)⟩
    have hck := cyc_neg (nodesL_SX [] es) hends0 hC301
    obtain rfl : ok303 = false := Bool.eq_false_iff.2 fun h => hn26 (hck.1 h)
    obtain rfl := cyc_no hC301
    refine ⟨_, rfl, ?_⟩
    have hF304 := hO25.ext hx298
    have hE305 : Below w0.heap.size w0 w297 := hx298.e hE290 (Nat.le_refl _)
    have hz306 := hE305.le
    have hs307 := hx298.size
    obtain ⟨br, bc, rfl, _, _⟩ := hO300.src.form
    refine st_q (v := .tuple #[.slice br (([] : List Nat).length) bc, .bool false]) (x_move rfl) ?_
    refine st_q (v := .slice br (([] : List Nat).length) bc) (x_extract rfl rfl) ?_
    refine st_q (v := .bool false) (x_extract rfl rfl) ?_
    refine st_q (v := .slice br (([] : List Nat).length) bc) (x_assign rfl) ?_
    refine st_q (v := .bool false) (x_assign rfl) ?_
    refine st_nil ?_
    refine kn294 _ _ ?_
    refine seqK fun Q308 kn309 kr310 ke311 => ?_
    refine region ?_
    refine st_q (v := .slice a xs.length ca) (x_move rfl) ?_
    refine st_q (v := .slice b es.length cb) (x_move rfl) ?_
    refine st_c (t_call [.slice a xs.length ca, .slice b es.length cb] T.cf11 rfl rfl) (parts11 xs es _ _ _ (ha.below hE305) (hb.below hE305) hfx hfe hn) ?_
    rintro _ w312 ⟨v314, us, P, rfl, hx313, hG, hO315, hPI⟩
    refine ⟨_, rfl, ?_⟩
    have hF316 := hF304.ext hx313
    have hF317 := hO300.ext hx313
    have hE318 : Below w0.heap.size w0 w312 := hx313.e hE305 (Nat.le_refl _)
    have hz319 := hE318.le
    have hs320 := hx313.size
    have hRI : RowsIn w312.heap v314 us P := RowsIn.of hO315 hPI
    have hEp : Ext w312 w312 := Below.refl _ _
    refine st_q (v := v314) (x_assign rfl) ?_
    refine st_nil ?_
    refine kn309 _ _ ?_
    refine seqK fun Q321 kn322 kr323 ke324 => ?_
    refine region ?_
    refine st_q (v := .bool false) (x_assign rfl) ?_
    refine st_nil ?_
    refine kn322 _ _ ?_
    refine seqK fun Q325 kn326 kr327 ke328 => ?_
    refine seqK fun Q329 kn330 kr331 ke332 => ?_
    refine region ?_
    refine st_q (v := .int .i64 ((0 : Nat) : Int)) (x_assign rfl) ?_
    refine st_nil ?_
    refine kn330 _ _ ?_
    refine blockK fun Q333 kn334 kr335 kx336 kb337 => ?_
    refine loopK (α := Nat × Bool) (fun x => [(1, .slice b es.length cb), (5, .slice ar ((nodesL xs es).length) cr), (6, .int .i64 ((0 : Nat) : Int)), (7, .slice br (([] : List Nat).length) bc), (8, .bool false), (9, v314), (10, .bool x.2), (11, .int .i64 ((x.1 : Nat) : Int))]) (fun x w338 => Ext w312 w338 ∧ x.1 ≤ es.length ∧ (x.2 = true ↔ (False ∨ ∃ j, j < x.1 ∧ Bar es P j))) (fun x => es.length - x.1) (0, false) ⟨rfl, rfl, rfl, rfl, rfl, rfl, rfl, rfl, trivial⟩ ?_ ?_
    ·
      refine ⟨Below.refl _ _, ?_⟩
      try dsimp only
      exact ⟨Nat.zero_le _, fun h => (by cases h), fun h => h.elim False.elim fun ⟨j, hj, _⟩ => absurd hj (by omega)⟩
    ·
      rintro τ339 ⟨i, bar⟩ w340 ⟨hx341, ⟨hi, hbar⟩⟩
      try dsimp only at hi hbar
      have hF342 := hF316.ext hx341
      have hF343 := hF317.ext hx341
      have hF344 := hx341.e hEp (Nat.le_refl _)
      have hE345 : Below w0.heap.size w0 w340 := hx341.e hE318 (Nat.le_refl _)
      have hz346 := hE345.le
      have hs347 := hx341.size
      intro Q348 kn349 kr350 ke351
      refine seqK fun Q352 kn353 kr354 ke355 => ?_
      refine seqK fun Q356 kn357 kr358 ke359 => ?_
      refine region ?_
      refine st_q (v := .int .i64 ((i : Nat) : Int)) (x_move rfl) ?_
      refine st_q (v := .slice b es.length cb) (x_move rfl) ?_
      refine st_q (v := .int .i64 ((es.length : Nat) : Int)) (x_lenSl rfl Try.underlying23 rfl) ?_
      refine st_q (v := .bool (decide (i < es.length))) (x_lssN rfl rfl) ?_
      refine st_nil ?_
      refine kn357 _ _ ?_
      refine cnd (p := i < es.length) rfl (fun h360 => ?_) (fun h360 => ?_)
      ·
        refine skip ?_
        refine kn353 _ _ ?_
        refine seqK fun Q361 kn362 kr363 ke364 => ?_
        refine blockK fun Q365 kn366 kr367 kx368 kb369 => ?_
        refine seqK fun Q370 kn371 kr372 ke373 => ?_
        refine region ?_
        have hi1 := (hends i (by omega)).1
        have hi2 := (hends i (by omega)).2
        have hpl : pos P (el es i).2.1 ≤ pos P (el es i).1 := hG.pos_le _ hi1 _ hi2 (Rch.one (el_memE (by omega)))
        have hrl := hIs.rule _ (el_memE (show i < es.length by omega))
        have hr0 : lev (el es i).2.1 ≤ lev (el es i).1 := by omega
        have hr1 : (el es i).2.2 = true → lev (el es i).2.1 + 1 ≤ lev (el es i).1 := fun h => by unfold ng at hrl; rw [if_pos h] at hrl; exact hrl
        have hlb := hbnd _ hi2
        refine st_q (v := .slice b es.length cb) (x_move rfl) ?_
        refine st_q (v := .int .i64 ((i : Nat) : Int)) (x_move rfl) ?_
        obtain ⟨b374, o375, ha376, hc377⟩ := hb.at (by omega)
        refine st_q (v := .pointer (some ⟨b374, o375 + i * 3, none⟩)) (x_index' T.sl23 rfl ha376 rfl (by omega)) ?_
        refine st_q (v := .agg #[.string ((el es i).1), .string ((el es i).2.1), .bool ((el es i).2.2)]) (x_loadA [.string ((el es i).1), .string ((el es i).2.1), .bool ((el es i).2.2)] T.ag47 rfl ((hc377.below hE345).elem enE_len (i := i) (by omega))) ?_
        refine st_e (e_alloc T.zv47 ?_)
        intro w378 hA379
        have hx380 := hA379.ext
        have hs381 := hA379.size
        have hB382 : Blk w378.heap w340.heap.size [.string ByteArray.empty, .string ByteArray.empty, .bool false] 47 := hA379.new
        have hF383 := hF342.ext hx380
        have hF384 := hF343.ext hx380
        have hF385 := hx380.e hF344 (Nat.le_refl _)
        have hF386 := hx380.e hx341 (Nat.le_refl _)
        have hE387 : Below w0.heap.size w0 w378 := hx380.e hE345 (Nat.le_refl _)
        have hz388 := hE387.le
        have hs389 := hx380.size
        refine st_s (e_st (v := .agg #[.string ((el es i).1), .string ((el es i).2.1), .bool ((el es i).2.2)]) T.sz47 rfl rfl hB382 (by simp [Value.cells]) (by rfl) ?_)
        intro w390 hP391
        have hB392 : Blk w390.heap w340.heap.size [.string ((el es i).1), .string ((el es i).2.1), .bool ((el es i).2.2)] 47 := hP391.new
        have hs393 := hP391.size
        have hF394 := hF383.gk (hP391.grownBy) (hB382.rowk) (by decide)
        have hF395 := hF384.gk (hP391.grownBy) (hB382.rowk) (by decide)
        have hF396 := hP391.below hF385 (by omega)
        have hF397 := hP391.below hF386 (by omega)
        have hE398 : Below w0.heap.size w0 w390 := hP391.below hE387 (by omega)
        have hz399 := hE398.le
        refine st_nil ?_
        refine kn371 _ _ ?_
        refine seqK fun Q400 kn401 kr402 ke403 => ?_
        refine regionD1 [2, 6] [0, 1, 2, 4, 5, 6, 8, 9] (.one 0 (.one 1 (.one 2 (.one 4 (.one 5 (.one 6 (.one 3 (.one 7 (.one 8 (.one 9 .done)))))))))) (by kernel_rfl) (by kernel_rfl) ?_
        intro w404 hx405 hs406
        have hB407 := hB392.ext hx405
        have hF408 := hF394.ext hx405
        have hF409 := hF395.ext hx405
        have hF410 := hx405.e hF396 (Nat.le_refl _)
        have hF411 := hx405.e hF397 (Nat.le_refl _)
        have hE412 : Below w0.heap.size w0 w404 := hx405.e hE398 (Nat.le_refl _)
        have hz413 := hE412.le
        have hs414 := hx405.size
        have hS415 : Ext w404 w404 := Below.refl _ _
        refine d_q (v := v314) rfl rfl (fun _ => x_move rfl) ?_
        refine d_q (v := .pointer (some ⟨w340.heap.size, 0, none⟩)) rfl rfl (fun _ => x_field (o := 0) T.fa47_0 rfl) ?_
        refine d_l (v := .string ((el es i).1)) rfl rfl rfl (fun v417 hw416 => x_load1 T.na9 rfl ((hB407.one 0 rfl).ext hw416)) ?_
        refine d_q (v := v314) rfl rfl (fun _ => x_move rfl) ?_
        refine d_q (v := .pointer (some ⟨w340.heap.size, 1, none⟩)) rfl rfl (fun _ => x_field (o := 0) T.fa47_1 rfl) ?_
        refine d_l (v := .string ((el es i).2.1)) rfl rfl rfl (fun v419 hw418 => x_load1 T.na9 rfl ((hB407.one 1 rfl).ext hw418)) ?_
        refine d_e (by decide) (d_c' rfl rfl (t_call [v314, .string ((el es i).1)] T.cf23 rfl rfl) (part23 P us (el es i).1 _ _ (RowsIn.below hRI hF410)) ?_)
        rintro _ w420 ⟨e422, hx421⟩
        rw [prt_pos (hG.pos_lt _ hi1)] at e422
        subst e422
        refine ⟨_, rfl, ?_⟩
        have hB423 := hB407.ext hx421
        have hF424 := hF408.ext hx421
        have hF425 := hF409.ext hx421
        have hF426 := hx421.e hF410 (Nat.le_refl _)
        have hF427 := hx421.e hF411 (Nat.le_refl _)
        have hE428 : Below w0.heap.size w0 w420 := hx421.e hE412 (Nat.le_refl _)
        have hz429 := hE428.le
        have hs430 := hx421.size
        have hS431 := hS415.trans (hx421.mono hS415.size)
        refine ⟨fun _ => hS431, ?_⟩
        refine d_e (by decide) (d_c' rfl rfl (t_call [v314, .string ((el es i).2.1)] T.cf23 rfl rfl) (part23 P us (el es i).2.1 _ _ (RowsIn.below hRI hF426)) ?_)
        rintro _ w432 ⟨e434, hx433⟩
        rw [prt_pos (hG.pos_lt _ hi2)] at e434
        subst e434
        refine ⟨_, rfl, ?_⟩
        have hB435 := hB423.ext hx433
        have hF436 := hF424.ext hx433
        have hF437 := hF425.ext hx433
        have hF438 := hx433.e hF426 (Nat.le_refl _)
        have hF439 := hx433.e hF427 (Nat.le_refl _)
        have hE440 : Below w0.heap.size w0 w432 := hx433.e hE428 (Nat.le_refl _)
        have hz441 := hE440.le
        have hs442 := hx433.size
        have hS443 := hS431.trans (hx433.mono hS431.size)
        refine ⟨fun _ => hS443, ?_⟩
        refine d_q (v := .int .i64 (((pos P (el es i).1) : Nat) : Int)) rfl rfl (fun _ => x_assign rfl) ?_
        refine d_q (v := .int .i64 (((pos P (el es i).2.1) : Nat) : Int)) rfl rfl (fun _ => x_assign rfl) ?_
        refine d_done ?_
        refine kn401 _ _ ?_
        refine seqK fun Q444 kn445 kr446 ke447 => ?_
        refine seqK fun Q448 kn449 kr450 ke451 => ?_
        refine region ?_
        refine st_q (v := .int .i64 (((pos P (el es i).1) : Nat) : Int)) (x_move rfl) ?_
        refine st_q (v := .bool (decide (((pos P (el es i).1)) < 0))) (x_lssN rfl rfl) ?_
        refine st_if (p := ((pos P (el es i).1)) < 0) (x_move rfl) (fun h452 => ?_) (fun h452 => ?_)
        ·
          exact absurd h452 (by omega)
        ·
          refine st_gq 2 52 rfl rfl (by decide) ?_
          refine st_q (v := .int .i64 (((pos P (el es i).2.1) : Nat) : Int)) (x_move rfl) ?_
          refine st_gq 2 52 rfl rfl (by decide) ?_
          refine st_q (v := .bool (decide (((pos P (el es i).2.1)) < 0))) (x_lssN rfl rfl) ?_
          refine st_q (v := .bool (decide (((pos P (el es i).2.1)) < 0))) (x_pickF rfl rfl) ?_
          refine st_if (p := ((pos P (el es i).2.1)) < 0) (x_move rfl) (fun h453 => ?_) (fun h453 => ?_)
          ·
            exact absurd h453 (by omega)
          ·
            refine st_gq 6 56 rfl rfl (by decide) ?_
            refine st_q (v := .int .i64 (((pos P (el es i).1) : Nat) : Int)) (x_move rfl) ?_
            refine st_gq 6 56 rfl rfl (by decide) ?_
            refine st_q (v := .int .i64 (((pos P (el es i).2.1) : Nat) : Int)) (x_move rfl) ?_
            refine st_gq 6 56 rfl rfl (by decide) ?_
            refine st_q (v := .bool (decide (((pos P (el es i).1)) < ((pos P (el es i).2.1))))) (x_lssN rfl rfl) ?_
            refine st_q (v := .bool (decide (((pos P (el es i).1)) < ((pos P (el es i).2.1))))) (x_pickF rfl rfl) ?_
            refine st_nil ?_
            refine kn449 _ _ ?_
            refine cnd (p := ((pos P (el es i).1)) < ((pos P (el es i).2.1))) rfl (fun h454 => ?_) (fun h454 => ?_)
            ·
              exact absurd h454 (by omega)
            ·
              refine skip ?_
              refine kn445 _ _ ?_
              refine seqLK (n := 133) (ds := []) (α := Bool) (fun x => [(1, .slice b es.length cb), (5, .slice ar ((nodesL xs es).length) cr), (6, .int .i64 ((0 : Nat) : Int)), (7, .slice br (([] : List Nat).length) bc), (8, .bool false), (9, v314), (10, .bool x), (11, .int .i64 ((i : Nat) : Int)), (12, .pointer (some ⟨w340.heap.size, 0, none⟩)), (13, .int .i64 (((pos P (el es i).1) : Nat) : Int)), (14, .int .i64 (((pos P (el es i).2.1) : Nat) : Int))]) (fun x w455 => Ext w432 w455 ∧ (x = true ↔ bar = true ∨ Bar es P i)) ?_ ?_
              ·
                have hx456 : Ext w432 w432 := Below.refl _ _
                intro Q457 kn458 kr459 ke460
                refine region ?_
                refine st_q (v := .bool bar) (x_move rfl) ?_
                refine st_if (p := bar = true) (x_moveBB rfl) (fun h461 => ?_) (fun h461 => ?_)
                ·
                  refine st_gn 1 62 rfl rfl (by decide) rfl ?_
                  refine st_gn 1 62 rfl rfl (by decide) rfl ?_
                  refine st_gn 1 62 rfl rfl (by decide) rfl ?_
                  refine st_gu 4 65 rfl rfl (by decide) ?_
                  refine st_gu 4 65 rfl rfl (by decide) ?_
                  refine st_gu 4 65 rfl rfl (by decide) ?_
                  refine st_gn 1 62 rfl rfl (by decide) rfl ?_
                  refine st_q (v := .bool true) (x_pickT rfl rfl) ?_
                  refine st_q (v := .bool true) (x_assign rfl) ?_
                  refine st_nil ?_
                  refine kn458 _ (true) _ ⟨rfl, rfl, rfl, rfl, rfl, rfl, rfl, rfl, rfl, rfl, rfl, trivial⟩ ⟨hx456, ?_⟩
                  try dsimp only
                  exact ⟨fun _ => .inl (by assumption), fun _ => rfl⟩
                ·
                  refine st_gq 1 62 rfl rfl (by decide) ?_
                  refine st_q (v := .pointer (some ⟨w340.heap.size, 2, none⟩)) (x_field (o := 0) T.fa47_2 rfl) ?_
                  refine st_gq 1 62 rfl rfl (by decide) ?_
                  refine st_q (v := .bool ((el es i).2.2)) (x_load1 T.na4 rfl (hB435.one 2 rfl)) ?_
                  refine st_gq 1 62 rfl rfl (by decide) ?_
                  refine st_if (p := (el es i).2.2 = true) (x_moveBB rfl) (fun h462 => ?_) (fun h462 => ?_)
                  ·
                    refine st_gq 4 65 rfl rfl (by decide) ?_
                    refine st_q (v := .int .i64 (((pos P (el es i).1) : Nat) : Int)) (x_move rfl) ?_
                    refine st_gq 4 65 rfl rfl (by decide) ?_
                    refine st_q (v := .int .i64 (((pos P (el es i).2.1) : Nat) : Int)) (x_move rfl) ?_
                    refine st_gq 4 65 rfl rfl (by decide) ?_
                    refine st_q (v := .bool (decide (((pos P (el es i).1)) = ((pos P (el es i).2.1))))) (x_eqlN rfl rfl) ?_
                    refine st_gq 1 62 rfl rfl (by decide) ?_
                    refine st_q (v := .bool (decide (((pos P (el es i).1)) = ((pos P (el es i).2.1))))) (x_pickT rfl rfl) ?_
                    refine st_q (v := .bool (decide (((pos P (el es i).1)) = ((pos P (el es i).2.1))))) (x_pickF rfl rfl) ?_
                    refine st_q (v := .bool (decide (((pos P (el es i).1)) = ((pos P (el es i).2.1))))) (x_assign rfl) ?_
                    refine st_nil ?_
                    refine kn458 _ ((decide (((pos P (el es i).1)) = ((pos P (el es i).2.1))))) _ ⟨rfl, rfl, rfl, rfl, rfl, rfl, rfl, rfl, rfl, rfl, rfl, trivial⟩ ⟨hx456, ?_⟩
                    try dsimp only
                    exact ⟨fun h => .inr ⟨by assumption, of_decide_eq_true h⟩, fun h => h.elim (fun h => absurd h (by assumption)) (fun q => decide_eq_true q.2)⟩
                  ·
                    refine st_gn 4 65 rfl rfl (by decide) rfl ?_
                    refine st_gn 4 65 rfl rfl (by decide) rfl ?_
                    refine st_gn 4 65 rfl rfl (by decide) rfl ?_
                    refine st_gq 1 62 rfl rfl (by decide) ?_
                    refine st_q (v := .bool false) (x_pickF rfl rfl) ?_
                    refine st_q (v := .bool false) (x_pickF rfl rfl) ?_
                    refine st_q (v := .bool false) (x_assign rfl) ?_
                    refine st_nil ?_
                    refine kn458 _ (false) _ ⟨rfl, rfl, rfl, rfl, rfl, rfl, rfl, rfl, rfl, rfl, rfl, trivial⟩ ⟨hx456, ?_⟩
                    try dsimp only
                    exact ⟨fun h => (by cases h), fun h => h.elim (fun h => absurd h (by assumption)) (fun q => absurd q.1 (by assumption))⟩
              ·
                rintro τ463 bar2 w464 ⟨hx465, hb2⟩
                try dsimp only at hb2
                have hB466 := hB435.ext hx465
                have hF467 := hF436.ext hx465
                have hF468 := hF437.ext hx465
                have hF469 := hx465.e hF438 (Nat.le_refl _)
                have hF470 := hx465.e hF439 (Nat.le_refl _)
                have hE471 : Below w0.heap.size w0 w464 := hx465.e hE440 (Nat.le_refl _)
                have hz472 := hE471.le
                have hs473 := hx465.size
                refine seqK fun Q474 kn475 kr476 ke477 => ?_
                refine region ?_
                refine st_q (v := .slice ar ((nodesL xs es).length) cr) (x_move rfl) ?_
                refine st_q (v := .pointer (some ⟨w340.heap.size, 1, none⟩)) (x_field (o := 0) T.fa47_1 rfl) ?_
                refine st_q (v := .string ((el es i).2.1)) (x_load1 T.na9 rfl (hB466.one 1 rfl)) ?_
                refine st_c (t_call [.slice ar ((nodesL xs es).length) cr, .string ((el es i).2.1)] T.cf24 rfl rfl) (level24 (ranksOf (nodesL xs es) lev) (el es i).2.1 _ _ (Own.len hF467 hrkl.symm).src) ?_
                rintro _ w478 ⟨e480, hx479⟩
                rw [lvl_ranks hi2] at e480
                subst e480
                refine ⟨_, rfl, ?_⟩
                have hB481 := hB466.ext hx479
                have hF482 := hF467.ext hx479
                have hF483 := hF468.ext hx479
                have hF484 := hx479.e hF469 (Nat.le_refl _)
                have hF485 := hx479.e hF470 (Nat.le_refl _)
                have hE486 : Below w0.heap.size w0 w478 := hx479.e hE471 (Nat.le_refl _)
                have hz487 := hE486.le
                have hs488 := hx479.size
                refine st_q (v := .int .i64 (((lev (el es i).2.1) : Nat) : Int)) (x_assign rfl) ?_
                refine st_nil ?_
                refine kn475 _ _ ?_
                refine seqK fun Q489 kn490 kr491 ke492 => ?_
                refine seqK fun Q493 kn494 kr495 ke496 => ?_
                refine region ?_
                refine st_q (v := .pointer (some ⟨w340.heap.size, 2, none⟩)) (x_field (o := 0) T.fa47_2 rfl) ?_
                refine st_q (v := .bool ((el es i).2.2)) (x_load1 T.na4 rfl (hB481.one 2 rfl)) ?_
                refine st_nil ?_
                refine kn494 _ _ ?_
                refine cndB (b := (el es i).2.2) rfl (fun h497 => ?_) (fun h497 => ?_)
                ·
                  refine region ?_
                  refine st_q (v := .int .i64 (((lev (el es i).2.1) : Nat) : Int)) (x_move rfl) ?_
                  refine st_q (v := .int .i64 ((((lev (el es i).2.1) + 1) : Nat) : Int)) (x_addN rfl rfl (by omega)) ?_
                  refine st_q (v := .int .i64 ((((lev (el es i).2.1) + 1) : Nat) : Int)) (x_assign rfl) ?_
                  refine st_nil ?_
                  refine kn490 _ _ ?_
                  refine seqK fun Q498 kn499 kr500 ke501 => ?_
                  refine regionD1 [6, 17, 21] [0, 2, 3, 4, 5, 6, 8, 9, 10, 11, 12, 13, 14, 15, 16, 17, 19, 20, 21, 23, 24, 25, 26] (.one 0 (.one 1 (.one 2 (.one 3 (.one 4 (.one 5 (.one 6 (.one 8 (.one 7 (.one 9 (.one 10 (.one 11 (.one 12 (.one 13 (.one 14 (.one 15 (.one 16 (.one 17 (.one 19 (.one 20 (.one 21 (.one 18 (.one 22 (.one 23 (.one 24 (.one 25 (.one 26 .done))))))))))))))))))))))))))) (by kernel_rfl) (by kernel_rfl) ?_
                  intro w502 hx503 hs504
                  have hB505 := hB481.ext hx503
                  have hF506 := hF482.ext hx503
                  have hF507 := hF483.ext hx503
                  have hF508 := hx503.e hF484 (Nat.le_refl _)
                  have hF509 := hx503.e hF485 (Nat.le_refl _)
                  have hE510 : Below w0.heap.size w0 w502 := hx503.e hE486 (Nat.le_refl _)
                  have hz511 := hE510.le
                  have hs512 := hx503.size
                  have hS513 : Ext w502 w502 := Below.refl _ _
                  refine d_q (v := .int .i64 ((0 : Nat) : Int)) rfl rfl (fun _ => x_move rfl) ?_
                  refine d_e (by decide) (d_c' rfl rfl (t_call [.int .i64 ((0 : Nat) : Int)] T.cf21 rfl rfl) (num21 0 _) ?_)
                  rintro _ _ ⟨rfl, rfl⟩
                  refine ⟨_, rfl, ?_⟩
                  have hS514 := hS513
                  refine ⟨fun _ => hS514, ?_⟩
                  refine d_q (v := .bool (decide (0 = 0))) rfl rfl (fun _ => x_eqlN rfl rfl) ?_
                  refine d_if rfl rfl (p := 0 = 0) (fun _ => x_move rfl) (fun h515 => ?_) (fun h515 => ?_)
                  ·
                    refine d_gq (v := .slice ar ((nodesL xs es).length) cr) (j := 3) (t := 82) rfl rfl rfl rfl (by decide) (fun _ => x_move rfl) ?_
                    refine d_gq (v := .pointer (some ⟨w340.heap.size, 0, none⟩)) (j := 3) (t := 82) rfl rfl rfl rfl (by decide) (fun _ => x_field (o := 0) T.fa47_0 rfl) ?_
                    refine d_gl (v := .string ((el es i).1)) (j := 3) (t := 82) rfl rfl rfl rfl rfl (by decide) (fun v517 hw516 => x_load1 T.na9 rfl ((hB505.one 0 rfl).ext hw516)) ?_
                    refine d_gq (v := .int .i64 ((((lev (el es i).2.1) + 1) : Nat) : Int)) (j := 3) (t := 82) rfl rfl rfl rfl (by decide) (fun _ => x_move rfl) ?_
                    refine d_e (by decide) (d_c' rfl (wanted_true (j := 3) (t := 82) rfl rfl (by decide)) (t_call [.slice ar ((nodesL xs es).length) cr, .string ((el es i).1)] T.cf24 rfl rfl) (level24 (ranksOf (nodesL xs es) lev) (el es i).1 _ _ (Own.len hF506 hrkl.symm).src) ?_)
                    rintro _ w518 ⟨e520, hx519⟩
                    rw [lvl_ranks hi1] at e520
                    subst e520
                    refine ⟨_, rfl, ?_⟩
                    have hB521 := hB505.ext hx519
                    have hF522 := hF506.ext hx519
                    have hF523 := hF507.ext hx519
                    have hF524 := hx519.e hF508 (Nat.le_refl _)
                    have hF525 := hx519.e hF509 (Nat.le_refl _)
                    have hE526 : Below w0.heap.size w0 w518 := hx519.e hE510 (Nat.le_refl _)
                    have hz527 := hE526.le
                    have hs528 := hx519.size
                    have hS529 := hS514.trans (hx519.mono hS514.size)
                    refine ⟨fun _ => hS529, ?_⟩
                    refine d_gq (v := .bool (decide (((lev (el es i).1)) < (((lev (el es i).2.1) + 1))))) (j := 3) (t := 82) rfl rfl rfl rfl (by decide) (fun _ => x_lssN rfl rfl) ?_
                    refine d_gif (j := 3) (t := 82) rfl rfl rfl rfl (by decide) (p := ((lev (el es i).1)) < (((lev (el es i).2.1) + 1))) (fun _ => x_move rfl) (fun h530 => ?_) (fun h530 => ?_)
                    ·
                      exact absurd h530 (by first | omega | (have := hr1 (by assumption); omega))
                    ·
                      refine d_gq (v := .int .i64 (((pos P (el es i).1) : Nat) : Int)) (j := 10) (t := 89) rfl rfl rfl rfl (by decide) (fun _ => x_move rfl) ?_
                      refine d_gq (v := .int .i64 (((pos P (el es i).2.1) : Nat) : Int)) (j := 10) (t := 89) rfl rfl rfl rfl (by decide) (fun _ => x_move rfl) ?_
                      refine d_gq (v := .bool (decide (((pos P (el es i).1)) = ((pos P (el es i).2.1))))) (j := 10) (t := 89) rfl rfl rfl rfl (by decide) (fun _ => x_eqlN rfl rfl) ?_
                      refine d_gif (j := 10) (t := 89) rfl rfl rfl rfl (by decide) (p := ((pos P (el es i).1)) = ((pos P (el es i).2.1))) (fun _ => x_move rfl) (fun h531 => ?_) (fun h531 => ?_)
                      ·
                        refine d_gq (v := .slice ar ((nodesL xs es).length) cr) (j := 14) (t := 93) rfl rfl rfl rfl (by decide) (fun _ => x_move rfl) ?_
                        refine d_gq (v := .pointer (some ⟨w340.heap.size, 0, none⟩)) (j := 14) (t := 93) rfl rfl rfl rfl (by decide) (fun _ => x_field (o := 0) T.fa47_0 rfl) ?_
                        refine d_gl (v := .string ((el es i).1)) (j := 14) (t := 93) rfl rfl rfl rfl rfl (by decide) (fun v533 hw532 => x_load1 T.na9 rfl ((hB505.one 0 rfl).ext hw532)) ?_
                        refine d_gq (v := .slice ar ((nodesL xs es).length) cr) (j := 14) (t := 93) rfl rfl rfl rfl (by decide) (fun _ => x_move rfl) ?_
                        refine d_gq (v := .pointer (some ⟨w340.heap.size, 1, none⟩)) (j := 14) (t := 93) rfl rfl rfl rfl (by decide) (fun _ => x_field (o := 0) T.fa47_1 rfl) ?_
                        refine d_gl (v := .string ((el es i).2.1)) (j := 14) (t := 93) rfl rfl rfl rfl rfl (by decide) (fun v535 hw534 => x_load1 T.na9 rfl ((hB505.one 1 rfl).ext hw534)) ?_
                        refine d_e (by decide) (d_c' rfl (wanted_true (j := 14) (t := 93) rfl rfl (by decide)) (t_call [.slice ar ((nodesL xs es).length) cr, .string ((el es i).1)] T.cf24 rfl rfl) (level24 (ranksOf (nodesL xs es) lev) (el es i).1 _ _ (Own.len hF522 hrkl.symm).src) ?_)
                        rintro _ w536 ⟨e538, hx537⟩
                        rw [lvl_ranks hi1] at e538
                        subst e538
                        refine ⟨_, rfl, ?_⟩
                        have hB539 := hB521.ext hx537
                        have hF540 := hF522.ext hx537
                        have hF541 := hF523.ext hx537
                        have hF542 := hx537.e hF524 (Nat.le_refl _)
                        have hF543 := hx537.e hF525 (Nat.le_refl _)
                        have hE544 : Below w0.heap.size w0 w536 := hx537.e hE526 (Nat.le_refl _)
                        have hz545 := hE544.le
                        have hs546 := hx537.size
                        have hS547 := hS529.trans (hx537.mono hS529.size)
                        refine ⟨fun _ => hS547, ?_⟩
                        refine d_e (by decide) (d_c' rfl (wanted_true (j := 14) (t := 93) rfl rfl (by decide)) (t_call [.slice ar ((nodesL xs es).length) cr, .string ((el es i).2.1)] T.cf24 rfl rfl) (level24 (ranksOf (nodesL xs es) lev) (el es i).2.1 _ _ (Own.len hF540 hrkl.symm).src) ?_)
                        rintro _ w548 ⟨e550, hx549⟩
                        rw [lvl_ranks hi2] at e550
                        subst e550
                        refine ⟨_, rfl, ?_⟩
                        have hB551 := hB539.ext hx549
                        have hF552 := hF540.ext hx549
                        have hF553 := hF541.ext hx549
                        have hF554 := hx549.e hF542 (Nat.le_refl _)
                        have hF555 := hx549.e hF543 (Nat.le_refl _)
                        have hE556 : Below w0.heap.size w0 w548 := hx549.e hE544 (Nat.le_refl _)
                        have hz557 := hE556.le
                        have hs558 := hx549.size
                        have hS559 := hS547.trans (hx549.mono hS547.size)
                        refine ⟨fun _ => hS559, ?_⟩
                        refine d_gq (v := .bool (decide (((lev (el es i).1)) ≠ ((lev (el es i).2.1))))) (j := 14) (t := 93) rfl rfl rfl rfl (by decide) (fun _ => x_neqN rfl rfl) ?_
                        refine d_gq (v := .bool (decide (((lev (el es i).1)) ≠ ((lev (el es i).2.1))))) (j := 10) (t := 89) rfl rfl rfl rfl (by decide) (fun _ => x_pickT rfl rfl) ?_
                        refine d_gq (v := .bool (decide (((lev (el es i).1)) ≠ ((lev (el es i).2.1))))) (j := 3) (t := 82) rfl rfl rfl rfl (by decide) (fun _ => x_pickF rfl rfl) ?_
                        refine d_q (v := .bool (decide (((lev (el es i).1)) ≠ ((lev (el es i).2.1))))) rfl rfl (fun _ => x_pickT rfl rfl) ?_
                        refine d_done ?_
                        refine kn499 _ _ ?_
                        refine cnd (p := ((lev (el es i).1)) ≠ ((lev (el es i).2.1))) rfl (fun h560 => ?_) (fun h560 => ?_)
                        ·
                          exact absurd h560 (not_not_intro (lev_eq hIs ((hG.pos_eq _ hi1 _ hi2).1 (by assumption))))
                        ·
                          refine skip ?_
                          refine kn366 _ _ ?_
                          refine kn362 _ _ ?_
                          refine region ?_
                          refine st_q (v := .int .i64 ((i : Nat) : Int)) (x_move rfl) ?_
                          refine st_q (v := .int .i64 (((i + 1) : Nat) : Int)) (x_addN rfl rfl (by omega)) ?_
                          refine st_q (v := .int .i64 (((i + 1) : Nat) : Int)) (x_assign rfl) ?_
                          refine st_nil ?_
                          refine kn349 _ ((i + 1), bar2) _ ⟨rfl, rfl, rfl, rfl, rfl, rfl, rfl, rfl, trivial⟩ ⟨hF555, ?_⟩ ?_
                          ·
                            try dsimp only
                            exact ⟨by omega, some_step hbar hb2⟩
                          ·
                            (try dsimp only); omega
                      ·
                        refine d_gn (j := 14) (t := 93) rfl rfl rfl rfl (by decide) rfl ?_
                        refine d_gn (j := 14) (t := 93) rfl rfl rfl rfl (by decide) rfl ?_
                        refine d_gn (j := 14) (t := 93) rfl rfl rfl rfl (by decide) rfl ?_
                        refine d_gn (j := 14) (t := 93) rfl rfl rfl rfl (by decide) rfl ?_
                        refine d_gn (j := 14) (t := 93) rfl rfl rfl rfl (by decide) rfl ?_
                        refine d_gn (j := 14) (t := 93) rfl rfl rfl rfl (by decide) rfl ?_
                        refine d_e (by decide) (wpE_skip (j := 14) (t := 93) rfl rfl rfl (by decide) rfl (fun _ => hS529) ?_)
                        refine d_e (by decide) (wpE_skip (j := 14) (t := 93) rfl rfl rfl (by decide) rfl (fun _ => hS529) ?_)
                        refine d_gn (j := 14) (t := 93) rfl rfl rfl rfl (by decide) rfl ?_
                        refine d_gq (v := .bool false) (j := 10) (t := 89) rfl rfl rfl rfl (by decide) (fun _ => x_pickF rfl rfl) ?_
                        refine d_gq (v := .bool false) (j := 3) (t := 82) rfl rfl rfl rfl (by decide) (fun _ => x_pickF rfl rfl) ?_
                        refine d_q (v := .bool false) rfl rfl (fun _ => x_pickT rfl rfl) ?_
                        refine d_done ?_
                        refine kn499 _ _ ?_
                        refine cndF rfl ?_
                        refine skip ?_
                        refine kn366 _ _ ?_
                        refine kn362 _ _ ?_
                        refine region ?_
                        refine st_q (v := .int .i64 ((i : Nat) : Int)) (x_move rfl) ?_
                        refine st_q (v := .int .i64 (((i + 1) : Nat) : Int)) (x_addN rfl rfl (by omega)) ?_
                        refine st_q (v := .int .i64 (((i + 1) : Nat) : Int)) (x_assign rfl) ?_
                        refine st_nil ?_
                        refine kn349 _ ((i + 1), bar2) _ ⟨rfl, rfl, rfl, rfl, rfl, rfl, rfl, rfl, trivial⟩ ⟨hF525, ?_⟩ ?_
                        ·
                          try dsimp only
                          exact ⟨by omega, some_step hbar hb2⟩
                        ·
                          (try dsimp only); omega
                  ·
                    exact absurd h515 (not_not_intro rfl)
                ·
                  refine skip ?_
                  refine kn490 _ _ ?_
                  refine seqK fun Q561 kn562 kr563 ke564 => ?_
                  refine regionD1 [6, 17, 21] [0, 2, 3, 4, 5, 6, 8, 9, 10, 11, 12, 13, 14, 15, 16, 17, 19, 20, 21, 23, 24, 25, 26] (.one 0 (.one 1 (.one 2 (.one 3 (.one 4 (.one 5 (.one 6 (.one 8 (.one 7 (.one 9 (.one 10 (.one 11 (.one 12 (.one 13 (.one 14 (.one 15 (.one 16 (.one 17 (.one 19 (.one 20 (.one 21 (.one 18 (.one 22 (.one 23 (.one 24 (.one 25 (.one 26 .done))))))))))))))))))))))))))) (by kernel_rfl) (by kernel_rfl) ?_
                  intro w565 hx566 hs567
                  have hB568 := hB481.ext hx566
                  have hF569 := hF482.ext hx566
                  have hF570 := hF483.ext hx566
                  have hF571 := hx566.e hF484 (Nat.le_refl _)
                  have hF572 := hx566.e hF485 (Nat.le_refl _)
                  have hE573 : Below w0.heap.size w0 w565 := hx566.e hE486 (Nat.le_refl _)
                  have hz574 := hE573.le
                  have hs575 := hx566.size
                  have hS576 : Ext w565 w565 := Below.refl _ _
                  refine d_q (v := .int .i64 ((0 : Nat) : Int)) rfl rfl (fun _ => x_move rfl) ?_
                  refine d_e (by decide) (d_c' rfl rfl (t_call [.int .i64 ((0 : Nat) : Int)] T.cf21 rfl rfl) (num21 0 _) ?_)
                  rintro _ _ ⟨rfl, rfl⟩
                  refine ⟨_, rfl, ?_⟩
                  have hS577 := hS576
                  refine ⟨fun _ => hS577, ?_⟩
                  refine d_q (v := .bool (decide (0 = 0))) rfl rfl (fun _ => x_eqlN rfl rfl) ?_
                  refine d_if rfl rfl (p := 0 = 0) (fun _ => x_move rfl) (fun h578 => ?_) (fun h578 => ?_)
                  ·
                    refine d_gq (v := .slice ar ((nodesL xs es).length) cr) (j := 3) (t := 82) rfl rfl rfl rfl (by decide) (fun _ => x_move rfl) ?_
                    refine d_gq (v := .pointer (some ⟨w340.heap.size, 0, none⟩)) (j := 3) (t := 82) rfl rfl rfl rfl (by decide) (fun _ => x_field (o := 0) T.fa47_0 rfl) ?_
                    refine d_gl (v := .string ((el es i).1)) (j := 3) (t := 82) rfl rfl rfl rfl rfl (by decide) (fun v580 hw579 => x_load1 T.na9 rfl ((hB568.one 0 rfl).ext hw579)) ?_
                    refine d_gq (v := .int .i64 (((lev (el es i).2.1) : Nat) : Int)) (j := 3) (t := 82) rfl rfl rfl rfl (by decide) (fun _ => x_move rfl) ?_
                    refine d_e (by decide) (d_c' rfl (wanted_true (j := 3) (t := 82) rfl rfl (by decide)) (t_call [.slice ar ((nodesL xs es).length) cr, .string ((el es i).1)] T.cf24 rfl rfl) (level24 (ranksOf (nodesL xs es) lev) (el es i).1 _ _ (Own.len hF569 hrkl.symm).src) ?_)
                    rintro _ w581 ⟨e583, hx582⟩
                    rw [lvl_ranks hi1] at e583
                    subst e583
                    refine ⟨_, rfl, ?_⟩
                    have hB584 := hB568.ext hx582
                    have hF585 := hF569.ext hx582
                    have hF586 := hF570.ext hx582
                    have hF587 := hx582.e hF571 (Nat.le_refl _)
                    have hF588 := hx582.e hF572 (Nat.le_refl _)
                    have hE589 : Below w0.heap.size w0 w581 := hx582.e hE573 (Nat.le_refl _)
                    have hz590 := hE589.le
                    have hs591 := hx582.size
                    have hS592 := hS577.trans (hx582.mono hS577.size)
                    refine ⟨fun _ => hS592, ?_⟩
                    refine d_gq (v := .bool (decide (((lev (el es i).1)) < ((lev (el es i).2.1))))) (j := 3) (t := 82) rfl rfl rfl rfl (by decide) (fun _ => x_lssN rfl rfl) ?_
                    refine d_gif (j := 3) (t := 82) rfl rfl rfl rfl (by decide) (p := ((lev (el es i).1)) < ((lev (el es i).2.1))) (fun _ => x_move rfl) (fun h593 => ?_) (fun h593 => ?_)
                    ·
                      exact absurd h593 (by first | omega | (have := hr1 (by assumption); omega))
                    ·
                      refine d_gq (v := .int .i64 (((pos P (el es i).1) : Nat) : Int)) (j := 10) (t := 89) rfl rfl rfl rfl (by decide) (fun _ => x_move rfl) ?_
                      refine d_gq (v := .int .i64 (((pos P (el es i).2.1) : Nat) : Int)) (j := 10) (t := 89) rfl rfl rfl rfl (by decide) (fun _ => x_move rfl) ?_
                      refine d_gq (v := .bool (decide (((pos P (el es i).1)) = ((pos P (el es i).2.1))))) (j := 10) (t := 89) rfl rfl rfl rfl (by decide) (fun _ => x_eqlN rfl rfl) ?_
                      refine d_gif (j := 10) (t := 89) rfl rfl rfl rfl (by decide) (p := ((pos P (el es i).1)) = ((pos P (el es i).2.1))) (fun _ => x_move rfl) (fun h594 => ?_) (fun h594 => ?_)
                      ·
                        refine d_gq (v := .slice ar ((nodesL xs es).length) cr) (j := 14) (t := 93) rfl rfl rfl rfl (by decide) (fun _ => x_move rfl) ?_
                        refine d_gq (v := .pointer (some ⟨w340.heap.size, 0, none⟩)) (j := 14) (t := 93) rfl rfl rfl rfl (by decide) (fun _ => x_field (o := 0) T.fa47_0 rfl) ?_
                        refine d_gl (v := .string ((el es i).1)) (j := 14) (t := 93) rfl rfl rfl rfl rfl (by decide) (fun v596 hw595 => x_load1 T.na9 rfl ((hB568.one 0 rfl).ext hw595)) ?_
                        refine d_gq (v := .slice ar ((nodesL xs es).length) cr) (j := 14) (t := 93) rfl rfl rfl rfl (by decide) (fun _ => x_move rfl) ?_
                        refine d_gq (v := .pointer (some ⟨w340.heap.size, 1, none⟩)) (j := 14) (t := 93) rfl rfl rfl rfl (by decide) (fun _ => x_field (o := 0) T.fa47_1 rfl) ?_
                        refine d_gl (v := .string ((el es i).2.1)) (j := 14) (t := 93) rfl rfl rfl rfl rfl (by decide) (fun v598 hw597 => x_load1 T.na9 rfl ((hB568.one 1 rfl).ext hw597)) ?_
                        refine d_e (by decide) (d_c' rfl (wanted_true (j := 14) (t := 93) rfl rfl (by decide)) (t_call [.slice ar ((nodesL xs es).length) cr, .string ((el es i).1)] T.cf24 rfl rfl) (level24 (ranksOf (nodesL xs es) lev) (el es i).1 _ _ (Own.len hF585 hrkl.symm).src) ?_)
                        rintro _ w599 ⟨e601, hx600⟩
                        rw [lvl_ranks hi1] at e601
                        subst e601
                        refine ⟨_, rfl, ?_⟩
                        have hB602 := hB584.ext hx600
                        have hF603 := hF585.ext hx600
                        have hF604 := hF586.ext hx600
                        have hF605 := hx600.e hF587 (Nat.le_refl _)
                        have hF606 := hx600.e hF588 (Nat.le_refl _)
                        have hE607 : Below w0.heap.size w0 w599 := hx600.e hE589 (Nat.le_refl _)
                        have hz608 := hE607.le
                        have hs609 := hx600.size
                        have hS610 := hS592.trans (hx600.mono hS592.size)
                        refine ⟨fun _ => hS610, ?_⟩
                        refine d_e (by decide) (d_c' rfl (wanted_true (j := 14) (t := 93) rfl rfl (by decide)) (t_call [.slice ar ((nodesL xs es).length) cr, .string ((el es i).2.1)] T.cf24 rfl rfl) (level24 (ranksOf (nodesL xs es) lev) (el es i).2.1 _ _ (Own.len hF603 hrkl.symm).src) ?_)
                        rintro _ w611 ⟨e613, hx612⟩
                        rw [lvl_ranks hi2] at e613
                        subst e613
                        refine ⟨_, rfl, ?_⟩
                        have hB614 := hB602.ext hx612
                        have hF615 := hF603.ext hx612
                        have hF616 := hF604.ext hx612
                        have hF617 := hx612.e hF605 (Nat.le_refl _)
                        have hF618 := hx612.e hF606 (Nat.le_refl _)
                        have hE619 : Below w0.heap.size w0 w611 := hx612.e hE607 (Nat.le_refl _)
                        have hz620 := hE619.le
                        have hs621 := hx612.size
                        have hS622 := hS610.trans (hx612.mono hS610.size)
                        refine ⟨fun _ => hS622, ?_⟩
                        refine d_gq (v := .bool (decide (((lev (el es i).1)) ≠ ((lev (el es i).2.1))))) (j := 14) (t := 93) rfl rfl rfl rfl (by decide) (fun _ => x_neqN rfl rfl) ?_
                        refine d_gq (v := .bool (decide (((lev (el es i).1)) ≠ ((lev (el es i).2.1))))) (j := 10) (t := 89) rfl rfl rfl rfl (by decide) (fun _ => x_pickT rfl rfl) ?_
                        refine d_gq (v := .bool (decide (((lev (el es i).1)) ≠ ((lev (el es i).2.1))))) (j := 3) (t := 82) rfl rfl rfl rfl (by decide) (fun _ => x_pickF rfl rfl) ?_
                        refine d_q (v := .bool (decide (((lev (el es i).1)) ≠ ((lev (el es i).2.1))))) rfl rfl (fun _ => x_pickT rfl rfl) ?_
                        refine d_done ?_
                        refine kn562 _ _ ?_
                        refine cnd (p := ((lev (el es i).1)) ≠ ((lev (el es i).2.1))) rfl (fun h623 => ?_) (fun h623 => ?_)
                        ·
                          exact absurd h623 (not_not_intro (lev_eq hIs ((hG.pos_eq _ hi1 _ hi2).1 (by assumption))))
                        ·
                          refine skip ?_
                          refine kn366 _ _ ?_
                          refine kn362 _ _ ?_
                          refine region ?_
                          refine st_q (v := .int .i64 ((i : Nat) : Int)) (x_move rfl) ?_
                          refine st_q (v := .int .i64 (((i + 1) : Nat) : Int)) (x_addN rfl rfl (by omega)) ?_
                          refine st_q (v := .int .i64 (((i + 1) : Nat) : Int)) (x_assign rfl) ?_
                          refine st_nil ?_
                          refine kn349 _ ((i + 1), bar2) _ ⟨rfl, rfl, rfl, rfl, rfl, rfl, rfl, rfl, trivial⟩ ⟨hF618, ?_⟩ ?_
                          ·
                            try dsimp only
                            exact ⟨by omega, some_step hbar hb2⟩
                          ·
                            (try dsimp only); omega
                      ·
                        refine d_gn (j := 14) (t := 93) rfl rfl rfl rfl (by decide) rfl ?_
                        refine d_gn (j := 14) (t := 93) rfl rfl rfl rfl (by decide) rfl ?_
                        refine d_gn (j := 14) (t := 93) rfl rfl rfl rfl (by decide) rfl ?_
                        refine d_gn (j := 14) (t := 93) rfl rfl rfl rfl (by decide) rfl ?_
                        refine d_gn (j := 14) (t := 93) rfl rfl rfl rfl (by decide) rfl ?_
                        refine d_gn (j := 14) (t := 93) rfl rfl rfl rfl (by decide) rfl ?_
                        refine d_e (by decide) (wpE_skip (j := 14) (t := 93) rfl rfl rfl (by decide) rfl (fun _ => hS592) ?_)
                        refine d_e (by decide) (wpE_skip (j := 14) (t := 93) rfl rfl rfl (by decide) rfl (fun _ => hS592) ?_)
                        refine d_gn (j := 14) (t := 93) rfl rfl rfl rfl (by decide) rfl ?_
                        refine d_gq (v := .bool false) (j := 10) (t := 89) rfl rfl rfl rfl (by decide) (fun _ => x_pickF rfl rfl) ?_
                        refine d_gq (v := .bool false) (j := 3) (t := 82) rfl rfl rfl rfl (by decide) (fun _ => x_pickF rfl rfl) ?_
                        refine d_q (v := .bool false) rfl rfl (fun _ => x_pickT rfl rfl) ?_
                        refine d_done ?_
                        refine kn562 _ _ ?_
                        refine cndF rfl ?_
                        refine skip ?_
                        refine kn366 _ _ ?_
                        refine kn362 _ _ ?_
                        refine region ?_
                        refine st_q (v := .int .i64 ((i : Nat) : Int)) (x_move rfl) ?_
                        refine st_q (v := .int .i64 (((i + 1) : Nat) : Int)) (x_addN rfl rfl (by omega)) ?_
                        refine st_q (v := .int .i64 (((i + 1) : Nat) : Int)) (x_assign rfl) ?_
                        refine st_nil ?_
                        refine kn349 _ ((i + 1), bar2) _ ⟨rfl, rfl, rfl, rfl, rfl, rfl, rfl, rfl, trivial⟩ ⟨hF588, ?_⟩ ?_
                        ·
                          try dsimp only
                          exact ⟨by omega, some_step hbar hb2⟩
                        ·
                          (try dsimp only); omega
                  ·
                    exact absurd h578 (not_not_intro rfl)
      ·
        refine exit ?_
        refine ke355 _ _ _ ?_
        refine ke351 _ _ _ ?_
        refine kb337 _ _ ?_
        refine kn326 _ _ ?_
        refine seqK fun Q624 kn625 kr626 ke627 => ?_
        refine seqK fun Q628 kn629 kr630 ke631 => ?_
        refine region ?_
        have ei : i = es.length := by omega
        have hbb : bar = true ↔ NegLoop es := by rw [hbar, false_or, ei]; exact bar_iff hG hends
        obtain rfl : bar = false := Bool.eq_false_iff.2 fun h => hn26 (hbb.1 h)
        refine st_q (v := .bool false) (x_move rfl) ?_
        refine st_q (v := .bool false) (x_move rfl) ?_
        refine st_q (v := .bool (decide (¬ ((False) ↔ (False))))) (x_neqB Try.underlying4 rfl rfl) ?_
        refine st_if (p := ¬ ((False) ↔ (False))) (x_move rfl) (fun h632 => ?_) (fun h632 => ?_)
        ·
          exact absurd h632 (not_not_intro Iff.rfl)
        ·
          refine st_gq 3 109 rfl rfl (by decide) ?_
          refine st_q (v := .int .i64 ((0 : Nat) : Int)) (x_move rfl) ?_
          refine st_gq 3 109 rfl rfl (by decide) ?_
          refine st_c (t_call [.int .i64 ((0 : Nat) : Int)] T.cf21 rfl rfl) (num21 0 _) ?_
          rintro _ _ ⟨rfl, rfl⟩
          refine ⟨_, rfl, ?_⟩
          refine st_gq 3 109 rfl rfl (by decide) ?_
          refine st_q (v := .bool (decide (0 = 0))) (x_eqlN rfl rfl) ?_
          refine st_gq 3 109 rfl rfl (by decide) ?_
          refine st_q (v := .bool false) (x_move rfl) ?_
          refine st_gq 3 109 rfl rfl (by decide) ?_
          refine st_q (v := .bool (decide ((0 = 0) ↔ (False)))) (x_eqlB Try.underlying4 rfl rfl) ?_
          refine st_q (v := .bool (decide ((0 = 0) ↔ (False)))) (x_pickF rfl rfl) ?_
          refine st_if (p := (0 = 0) ↔ (False)) (x_move rfl) (fun h633 => ?_) (fun h633 => ?_)
          ·
            exact absurd h633 (by decide)
          ·
            refine st_gq 10 116 rfl rfl (by decide) ?_
            refine st_q (v := .bool false) (x_move rfl) ?_
            refine st_gq 10 116 rfl rfl (by decide) ?_
            refine st_q (v := .bool false) (x_move rfl) ?_
            refine st_gn 12 118 rfl rfl (by decide) rfl ?_
            refine st_gn 12 118 rfl rfl (by decide) rfl ?_
            refine st_gn 12 118 rfl rfl (by decide) rfl ?_
            refine st_gq 10 116 rfl rfl (by decide) ?_
            refine st_q (v := .bool false) (x_pickF rfl rfl) ?_
            refine st_q (v := .bool false) (x_pickF rfl rfl) ?_
            refine st_nil ?_
            refine kn629 _ _ ?_
            refine cndF rfl ?_
            refine skip ?_
            refine kn625 _ _ ?_
            refine seqK fun Q634 kn635 kr636 ke637 => ?_
            refine seqK fun Q638 kn639 kr640 ke641 => ?_
            refine region ?_
            refine st_q (v := .bool false) (x_move rfl) ?_
            refine st_q (v := .bool true) (x_notB (b := false) rfl) ?_
            refine st_nil ?_
            refine kn639 _ _ ?_
            refine cndT rfl ?_
            refine seqK fun Q642 kn643 kr644 ke645 => ?_
            refine region ?_
            refine st_q (v := .slice br (([] : List Nat).length) bc) (x_move rfl) ?_
            refine st_q (v := .int .i64 ((([] : List Nat).length : Nat) : Int)) (x_lenSl rfl Try.underlying38 rfl) ?_
            refine st_q (v := .bool (decide ((([] : List Nat).length) = 0))) (x_eqlN rfl rfl) ?_
            refine st_q (v := .bool (decide ((([] : List Nat).length) = 0))) (x_assign rfl) ?_
            refine st_nil ?_
            refine kn643 _ _ ?_
            refine ret ?_
            refine kr636 _ _ ?_
            refine leave1 (P := Try.prog) (fn := Try.f5) (t := 4) (v := .bool (decide ((([] : List Nat).length) = 0))) rfl rfl ?_
            exact ⟨by rw [decide_eq_true (show ([] : List Nat).length = 0 from rfl)], hE345⟩

end Go.Proofs.Ytknfjgbipfpnjaa
