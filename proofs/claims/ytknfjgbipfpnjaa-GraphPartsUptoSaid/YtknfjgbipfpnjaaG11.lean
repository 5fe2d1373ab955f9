import Derived.Test.YtknfjgbipfpnjaaGL
namespace Go.Proofs.Ytknfjgbipfpnjaa
open Go.RowKit Go.Eng Go.OrdPure
open Go.Knot
theorem T.cf36 : CF Try.prog 36 := fun _ _ => by kernel_rfl
theorem T.sz45 : SZ Try.prog 45 2 := fun _ => by kernel_rfl

theorem x_moveBB {P : Program} {n : Nat} {σ : Nat → Value} {w : World} {ty : TypeId} {x : Operand} {b : Bool} (hx : ev n σ x = .bool b) : Ex P (ev n σ) w (.move x) ty (.bool (decide (b = true))) := by
  have := x_move (P := P) (w := w) (ty := ty) hx
  cases b <;> exact this
theorem flat_repR (n : Nat) : flat enR (List.replicate n ((ByteArray.empty, 0) : Rank)) = (List.replicate n [Value.string ByteArray.empty, Value.int .i64 0]).flatten := by
  induction n with
  | zero => rfl
  | succ n ih => simp only [List.replicate_succ, flat, List.flatMap_cons, List.flatten_cons] at *; rw [ih]; rfl
theorem ranks_done {ns : List ByteArray} (hx : SX ns) {R : List Rank} {Pn lv : List Nat} (hl : R.length = ns.length) (h : ∀ j, j < ns.length → el R j = (el ns j, ((el lv (el Pn j) : Nat) : Int))) : R = ranksOf ns fun s => el lv (el Pn (ixS ns s)) := by
  refine list_ext_el (by simp [ranksOf, hl]) fun j hj => ?_
  rw [hl] at hj
  rw [h j hj, el_eq (xs := ranksOf ns _) (by simpa [ranksOf] using hj)]
  simp only [ranksOf, List.getElem_map]
  rw [← el_eq hj, ixS_of_el hx hj]
set_option maxHeartbeats 4000000 in
theorem levels16 (xs : List ByteArray) (es : List Edge) (va vb : Value) (w0 : World) (ha : Src w0.heap va xs.length 1 (flat enS xs)) (hb : Src w0.heap vb es.length 3 (flat enE es)) (hfx : FitS xs) (hfe : FitE es) (hn : xs.length + 2 * es.length ≤ 2097152) : Calls Try.prog 16 #[va, vb] w0 fun e w' => (NegLoop es ∧ e = .returned (.tuple #[.slice none 0 0, .int .i64 15]) ∧ Ext w0 w') ∨ (¬ NegLoop es ∧ ∃ v lev, e = .returned (.tuple #[v, .int .i64 0]) ∧ Ext w0 w' ∧ IsLev (nodesL xs es) es lev ∧ Own w'.heap w0.heap.size 45 2 v (nodesL xs es).length (flat enR (ranksOf (nodesL xs es) lev))) := by
  have hE0 : Below w0.heap.size w0 w0 := Below.refl _ _
  have hz0 := hE0.le
  obtain ⟨a, ca, rfl, hca, hca1⟩ := ha.form
  obtain ⟨b, cb, rfl, hcb, hcb1⟩ := hb.form
  refine enter Try.func16 rfl 174 Try.ntmps16 rfl ?_
  refine seqK fun Q1 kn2 kr3 ke4 => ?_
  refine region ?_
  refine st_q (v := .slice none 0 0) (x_assign rfl) ?_
  refine st_q (v := .int .i64 ((0 : Nat) : Int)) (x_assign rfl) ?_
  refine st_nil ?_
  refine kn2 _ _ ?_
  refine seqK fun Q5 kn6 kr7 ke8 => ?_
  refine region ?_
  refine st_q (v := .slice a xs.length ca) (x_move rfl) ?_
  refine st_q (v := .slice b es.length cb) (x_move rfl) ?_
  refine st_c (t_call [.slice a xs.length ca, .slice b es.length cb] T.cf35 rfl rfl) (laid35 xs es _ _ _ ((ha.below hE0)) (hb.below hE0) hfx hfe (by first | omega | (simp; omega))) ?_
  rintro _ w9 ⟨g, D, rfl, hx10, hDlo, hN⟩
  refine ⟨_, rfl, ?_⟩
  have hsz1 := hx10.size
  have hE11 : Below w9.heap.size w9 w9 := Below.refl _ _
  have hz12 := hE11.le
  have hb' := hb.ext hx10
  obtain ⟨ns, hns⟩ : ∃ n, n = nodesL xs es := ⟨_, rfl⟩
  rw [← hns] at hN
  have hfit := hN.fit
  have hvlen := hN.vlen
  have hends := hN.ends
  refine st_q (v := .pointer (some ⟨g, 0, none⟩)) (x_assign rfl) ?_
  refine st_nil ?_
  refine kn6 _ _ ?_
  refine seqK fun Q13 kn14 kr15 ke16 => ?_
  refine region ?_
  refine st_q (v := .pointer (some ⟨g, 0, none⟩)) (x_move rfl) ?_
  refine st_q (v := .slice b es.length cb) (x_move rfl) ?_
  refine st_c (t_call [.pointer (some ⟨g, 0, none⟩), .slice b es.length cb] T.cf36 rfl rfl) (knot36 ns es g D _ _ hN hb') ?_
  rintro _ w17 ⟨vp19, Pn, m, rfl, hx18, hPl, hKt, hPm, hPo⟩
  refine ⟨_, rfl, ?_⟩
  obtain ⟨ap, cp, rfl, hcp1, hcp2⟩ := hPo.src.form
  have hsz2 := hx18.size
  have hK : Kn ns es Pn m := ⟨hN.sx, hN.ends, hKt, hPl⟩
  have hN2 := hN.below hx18
  have hPs := hPo.src
  have hx20 := Below.e hx18 hx10 (Nat.le_refl _)
  have hE21 : Below w17.heap.size w17 w17 := Below.refl _ _
  have hz22 := hE21.le
  have hb'' := hb'.ext hx18
  refine st_q (v := .tuple #[.slice ap ns.length cp, .int .i64 ((m : Nat) : Int)]) (x_move rfl) ?_
  refine st_q (v := .slice ap ns.length cp) (x_extract rfl rfl) ?_
  refine st_q (v := .int .i64 ((m : Nat) : Int)) (x_extract rfl rfl) ?_
  refine st_q (v := .slice ap ns.length cp) (x_assign rfl) ?_
  refine st_q (v := .int .i64 ((m : Nat) : Int)) (x_assign rfl) ?_
  refine st_nil ?_
  refine kn14 _ _ ?_
  refine seqK fun Q23 kn24 kr25 ke26 => ?_
  refine seqK fun Q27 kn28 kr29 ke30 => ?_
  refine region ?_
  refine st_q (v := .slice b es.length cb) (x_move rfl) ?_
  refine st_q (v := .int .i64 ((es.length : Nat) : Int)) (x_lenSl rfl Try.underlying23 rfl) ?_
  refine st_q (v := .int .i64 ((0 : Nat) : Int)) (x_move rfl) ?_
  refine st_nil ?_
  refine kn28 _ _ ?_
  refine blockK fun Q31 kn32 kr33 kx34 kb35 => ?_
  refine loopK (α := Nat) (fun x => [(1, .slice b es.length cb), (6, .pointer (some ⟨g, 0, none⟩)), (7, .slice ap ns.length cp), (8, .int .i64 ((m : Nat) : Int)), (33, .slice b es.length cb), (34, .int .i64 ((es.length : Nat) : Int)), (35, .int .i64 ((x : Nat) : Int))]) (fun x w36 => Ext w17 w36 ∧ x ≤ es.length ∧ ∀ j, j < x → (el es j).2.2 = true → pF ns es Pn j ≠ pT ns es Pn j) (fun x => es.length - x) (0) ⟨rfl, rfl, rfl, rfl, rfl, rfl, rfl, trivial⟩ ?_ ?_
  ·
    refine ⟨Below.refl _ _, ?_⟩
    try dsimp only
    exact ⟨Nat.zero_le _, fun j hj => by omega⟩
  ·
    rintro τ37 i w38 ⟨hx39, ⟨hi, hI⟩⟩
    try dsimp only at hi hI
    have hE40 : Below w17.heap.size w17 w38 := hx39.e hE21 (Nat.le_refl _)
    have hz41 := hE40.le
    have hs42 := hx39.size
    intro Q43 kn44 kr45 ke46
    refine seqK fun Q47 kn48 kr49 ke50 => ?_
    refine region ?_
    refine st_q (v := .bool (decide (i < es.length))) (x_lssN rfl rfl) ?_
    refine st_nil ?_
    refine kn48 _ _ ?_
    refine seqK fun Q51 kn52 kr53 ke54 => ?_
    refine cnd (p := i < es.length) rfl (fun h55 => ?_) (fun h55 => ?_)
    ·
      refine skip ?_
      refine kn52 _ _ ?_
      refine seqK fun Q56 kn57 kr58 ke59 => ?_
      refine blockK fun Q60 kn61 kr62 kx63 kb64 => ?_
      refine seqK fun Q65 kn66 kr67 ke68 => ?_
      refine region ?_
      obtain ⟨b69, o70, ha71, hc72⟩ := hb''.at (by omega)
      refine st_q (v := .pointer (some ⟨b69, o70 + i * 3, none⟩)) (x_index' T.sl23 rfl ha71 rfl (by omega)) ?_
      have hi1 := ixS_lt (hends i (by omega)).1
      have hi2 := ixS_lt (hends i (by omega)).2
      have hp1 : el Pn (ixS ns (el es i).1) < m := hK.pF_lt (by omega)
      refine st_q (v := .agg #[.string ((el es i).1), .string ((el es i).2.1), .bool ((el es i).2.2)]) (x_loadA [.string ((el es i).1), .string ((el es i).2.1), .bool ((el es i).2.2)] T.ag47 rfl ((hc72.below hE40).elem enE_len (i := i) (by omega))) ?_
      refine st_e (e_alloc T.zv47 ?_)
      intro w73 hA74
      have hx75 := hA74.ext
      have hs76 := hA74.size
      have hB77 : Blk w73.heap w38.heap.size [.string ByteArray.empty, .string ByteArray.empty, .bool false] 47 := hA74.new
      have hF78 := hx75.e hx39 (Nat.le_refl _)
      have hE79 : Below w17.heap.size w17 w73 := hx75.e hE40 (Nat.le_refl _)
      have hz80 := hE79.le
      have hs81 := hx75.size
      refine st_s (e_st (v := .agg #[.string ((el es i).1), .string ((el es i).2.1), .bool ((el es i).2.2)]) T.sz47 rfl rfl hB77 (by simp [Value.cells]) (by rfl) ?_)
      intro w82 hP83
      have hB84 : Blk w82.heap w38.heap.size [.string ((el es i).1), .string ((el es i).2.1), .bool ((el es i).2.2)] 47 := hP83.new
      have hs85 := hP83.size
      have hF86 := hP83.below hF78 (by omega)
      have hE87 : Below w17.heap.size w17 w82 := hP83.below hE79 (by omega)
      have hz88 := hE87.le
      refine st_nil ?_
      refine kn66 _ _ ?_
      refine seqK fun Q89 kn90 kr91 ke92 => ?_
      refine regionD1 [1, 7, 9, 10, 12, 17, 19, 20, 22] [0, 1, 2, 3, 4, 5, 6, 7, 8, 9, 10, 11, 12, 13, 14, 15, 16, 17, 18, 19, 20, 21, 22, 23, 24] (.one 0 (.one 1 (.one 2 (.one 3 (.one 4 (.one 5 (.one 6 (.one 7 (.one 8 (.one 9 (.one 10 (.one 11 (.one 12 (.one 13 (.one 14 (.one 15 (.one 16 (.one 17 (.one 18 (.one 19 (.one 20 (.one 21 (.one 22 (.one 23 (.one 24 .done))))))))))))))))))))))))) (by kernel_rfl) (by kernel_rfl) ?_
      intro w93 hx94 hs95
      have hB96 := hB84.ext hx94
      have hF97 := hx94.e hF86 (Nat.le_refl _)
      have hE98 : Below w17.heap.size w17 w93 := hx94.e hE87 (Nat.le_refl _)
      have hz99 := hE98.le
      have hs100 := hx94.size
      have hS101 : Ext w93 w93 := Below.refl _ _
      refine d_q (v := .pointer (some ⟨w38.heap.size, 2, none⟩)) rfl rfl (fun _ => x_field (o := 0) T.fa47_2 rfl) ?_
      refine d_l (v := .bool ((el es i).2.2)) rfl rfl rfl (fun v103 hw102 => x_load1 T.na4 rfl ((hB96.one 2 rfl).ext hw102)) ?_
      refine d_if rfl rfl (p := (el es i).2.2 = true) (fun _ => x_moveBB rfl) (fun h104 => ?_) (fun h104 => ?_)
      ·
        refine d_gq (v := .slice ap ns.length cp) (j := 2) (t := 41) rfl rfl rfl rfl (by decide) (fun _ => x_move rfl) ?_
        refine d_gq (v := .pointer (some ⟨g, 0, none⟩)) (j := 2) (t := 41) rfl rfl rfl rfl (by decide) (fun _ => x_move rfl) ?_
        refine d_gq (v := .pointer (some ⟨g, 0, none⟩)) (j := 2) (t := 41) rfl rfl rfl rfl (by decide) (fun _ => x_nilCheck rfl) ?_
        refine d_gq (v := .pointer (some ⟨g, 1, none⟩)) (j := 2) (t := 41) rfl rfl rfl rfl (by decide) (fun _ => x_field (o := 0) T.fa65_1 rfl) ?_
        refine d_gl (v := .map (some D.bm)) (j := 2) (t := 41) rfl rfl rfl rfl rfl (by decide) (fun v106 hw105 => x_load1 T.na62 rfl (((hN2.blk.keep (hE98.block _ hN2.blk.lt)).one 1 rfl).ext hw105)) ?_
        refine d_gq (v := .pointer (some ⟨w38.heap.size, 0, none⟩)) (j := 2) (t := 41) rfl rfl rfl rfl (by decide) (fun _ => x_field (o := 0) T.fa47_0 rfl) ?_
        refine d_gl (v := .string ((el es i).1)) (j := 2) (t := 41) rfl rfl rfl rfl rfl (by decide) (fun v108 hw107 => x_load1 T.na9 rfl ((hB96.one 0 rfl).ext hw107)) ?_
        refine d_gl (v := .int .i64 (((ixS ns ((el es i).1)) : Nat) : Int)) (j := 2) (t := 41) rfl rfl rfl rfl rfl (by decide) (fun v110 hw109 => x_lookupM rfl rfl Try.underlying9 Try.underlying3 Try.underlying62 zeroI (OMap.ext (OMap.belowW hN2.map hE98) hw109) (hN2.fitn _ (hends _ (by omega)).1) (hends _ (by omega)).1) ?_
        obtain ⟨b111, o112, ha113, hc114⟩ := hPs.at (by omega)
        refine d_gq (v := .pointer (some ⟨b111, o112 + ((ixS ns ((el es i).1))) * 1, none⟩)) (j := 2) (t := 41) rfl rfl rfl rfl (by decide) (fun _ => x_index' T.sl38 rfl ha113 rfl (by omega)) ?_
        refine d_gl (v := .int .i64 (((el Pn ((ixS ns ((el es i).1)))) : Nat) : Int)) (j := 2) (t := 41) rfl rfl rfl rfl rfl (by decide) (fun v116 hw115 => x_load1 T.na3 rfl (((hc114.below hE98).elem enN_len (i := (ixS ns ((el es i).1))) (by omega)).ext hw115)) ?_
        refine d_gq (v := .slice ap ns.length cp) (j := 2) (t := 41) rfl rfl rfl rfl (by decide) (fun _ => x_move rfl) ?_
        refine d_gq (v := .pointer (some ⟨g, 0, none⟩)) (j := 2) (t := 41) rfl rfl rfl rfl (by decide) (fun _ => x_move rfl) ?_
        refine d_gq (v := .pointer (some ⟨g, 0, none⟩)) (j := 2) (t := 41) rfl rfl rfl rfl (by decide) (fun _ => x_nilCheck rfl) ?_
        refine d_gq (v := .pointer (some ⟨g, 1, none⟩)) (j := 2) (t := 41) rfl rfl rfl rfl (by decide) (fun _ => x_field (o := 0) T.fa65_1 rfl) ?_
        refine d_gl (v := .map (some D.bm)) (j := 2) (t := 41) rfl rfl rfl rfl rfl (by decide) (fun v118 hw117 => x_load1 T.na62 rfl (((hN2.blk.keep (hE98.block _ hN2.blk.lt)).one 1 rfl).ext hw117)) ?_
        refine d_gq (v := .pointer (some ⟨w38.heap.size, 1, none⟩)) (j := 2) (t := 41) rfl rfl rfl rfl (by decide) (fun _ => x_field (o := 0) T.fa47_1 rfl) ?_
        refine d_gl (v := .string ((el es i).2.1)) (j := 2) (t := 41) rfl rfl rfl rfl rfl (by decide) (fun v120 hw119 => x_load1 T.na9 rfl ((hB96.one 1 rfl).ext hw119)) ?_
        refine d_gl (v := .int .i64 (((ixS ns ((el es i).2.1)) : Nat) : Int)) (j := 2) (t := 41) rfl rfl rfl rfl rfl (by decide) (fun v122 hw121 => x_lookupM rfl rfl Try.underlying9 Try.underlying3 Try.underlying62 zeroI (OMap.ext (OMap.belowW hN2.map hE98) hw121) (hN2.fitn _ (hends _ (by omega)).2) (hends _ (by omega)).2) ?_
        refine d_gq (v := .pointer (some ⟨b111, o112 + ((ixS ns ((el es i).2.1))) * 1, none⟩)) (j := 2) (t := 41) rfl rfl rfl rfl (by decide) (fun _ => x_index' T.sl38 rfl ha113 rfl (by omega)) ?_
        refine d_gl (v := .int .i64 (((el Pn ((ixS ns ((el es i).2.1)))) : Nat) : Int)) (j := 2) (t := 41) rfl rfl rfl rfl rfl (by decide) (fun v124 hw123 => x_load1 T.na3 rfl (((hc114.below hE98).elem enN_len (i := (ixS ns ((el es i).2.1))) (by omega)).ext hw123)) ?_
        refine d_gq (v := .bool (decide (((el Pn ((ixS ns ((el es i).1))))) = ((el Pn ((ixS ns ((el es i).2.1)))))))) (j := 2) (t := 41) rfl rfl rfl rfl (by decide) (fun _ => x_eqlN rfl rfl) ?_
        refine d_q (v := .bool (decide (((el Pn ((ixS ns ((el es i).1))))) = ((el Pn ((ixS ns ((el es i).2.1)))))))) rfl rfl (fun _ => x_pickT rfl rfl) ?_
        refine d_done ?_
        refine kn90 _ _ ?_
        refine cnd (p := ((el Pn ((ixS ns ((el es i).1))))) = ((el Pn ((ixS ns ((el es i).2.1)))))) rfl (fun h125 => ?_) (fun h125 => ?_)
        ·
          refine seqK fun Q126 kn127 kr128 ke129 => ?_
          refine region ?_
          refine st_q (v := .slice none 0 0) (x_assign rfl) ?_
          refine st_q (v := .int .i64 ((15 : Nat) : Int)) (x_assign rfl) ?_
          refine st_nil ?_
          refine kn127 _ _ ?_
          refine ret ?_
          refine kr62 _ _ ?_
          refine kr58 _ _ ?_
          refine kr45 _ _ ?_
          refine kr33 _ _ ?_
          refine kr25 _ _ ?_
          refine leave2 (P := Try.prog) (fn := Try.f16) (t := 4) (u := 5) (v := .slice none 0 0) (v' := .int .i64 ((15 : Nat) : Int)) rfl rfl rfl ?_
          exact .inl ⟨hK.negloop (k := i) (by omega) (by assumption) (by assumption), rfl, (Below.e hE98 hx20 (Nat.le_refl _))⟩
        ·
          refine skip ?_
          refine kn61 _ _ ?_
          refine kn57 _ _ ?_
          refine region ?_
          refine st_q (v := .int .i64 (((i + 1) : Nat) : Int)) (x_addN rfl rfl (by omega)) ?_
          refine st_q (v := .int .i64 (((i + 1) : Nat) : Int)) (x_move rfl) ?_
          refine st_nil ?_
          refine kn44 _ ((i + 1)) _ ⟨rfl, rfl, rfl, rfl, rfl, rfl, rfl, trivial⟩ ⟨hF97, ?_⟩ ?_
          ·
            try dsimp only
            refine ⟨by omega, fun j hj hn => ?_⟩
            by_cases e : j = i
            · subst e; first | exact absurd hn (by assumption) | assumption
            · exact hI j (by omega) hn
          ·
            (try dsimp only); omega
      ·
        refine d_gn (j := 2) (t := 41) rfl rfl rfl rfl (by decide) rfl ?_
        refine d_gn (j := 2) (t := 41) rfl rfl rfl rfl (by decide) rfl ?_
        refine d_gn (j := 2) (t := 41) rfl rfl rfl rfl (by decide) rfl ?_
        refine d_gn (j := 2) (t := 41) rfl rfl rfl rfl (by decide) rfl ?_
        refine d_gn (j := 2) (t := 41) rfl rfl rfl rfl (by decide) rfl ?_
        refine d_gn (j := 2) (t := 41) rfl rfl rfl rfl (by decide) rfl ?_
        refine d_gn (j := 2) (t := 41) rfl rfl rfl rfl (by decide) rfl ?_
        refine d_gn (j := 2) (t := 41) rfl rfl rfl rfl (by decide) rfl ?_
        refine d_gn (j := 2) (t := 41) rfl rfl rfl rfl (by decide) rfl ?_
        refine d_gn (j := 2) (t := 41) rfl rfl rfl rfl (by decide) rfl ?_
        refine d_gn (j := 2) (t := 41) rfl rfl rfl rfl (by decide) rfl ?_
        refine d_gn (j := 2) (t := 41) rfl rfl rfl rfl (by decide) rfl ?_
        refine d_gn (j := 2) (t := 41) rfl rfl rfl rfl (by decide) rfl ?_
        refine d_gn (j := 2) (t := 41) rfl rfl rfl rfl (by decide) rfl ?_
        refine d_gn (j := 2) (t := 41) rfl rfl rfl rfl (by decide) rfl ?_
        refine d_gn (j := 2) (t := 41) rfl rfl rfl rfl (by decide) rfl ?_
        refine d_gn (j := 2) (t := 41) rfl rfl rfl rfl (by decide) rfl ?_
        refine d_gn (j := 2) (t := 41) rfl rfl rfl rfl (by decide) rfl ?_
        refine d_gn (j := 2) (t := 41) rfl rfl rfl rfl (by decide) rfl ?_
        refine d_gn (j := 2) (t := 41) rfl rfl rfl rfl (by decide) rfl ?_
        refine d_gn (j := 2) (t := 41) rfl rfl rfl rfl (by decide) rfl ?_
        refine d_q (v := .bool false) rfl rfl (fun _ => x_pickF rfl rfl) ?_
        refine d_done ?_
        refine kn90 _ _ ?_
        refine cndF rfl ?_
        refine skip ?_
        refine kn61 _ _ ?_
        refine kn57 _ _ ?_
        refine region ?_
        refine st_q (v := .int .i64 (((i + 1) : Nat) : Int)) (x_addN rfl rfl (by omega)) ?_
        refine st_q (v := .int .i64 (((i + 1) : Nat) : Int)) (x_move rfl) ?_
        refine st_nil ?_
        refine kn44 _ ((i + 1)) _ ⟨rfl, rfl, rfl, rfl, rfl, rfl, rfl, trivial⟩ ⟨hF97, ?_⟩ ?_
        ·
          try dsimp only
          refine ⟨by omega, fun j hj hn => ?_⟩
          by_cases e : j = i
          · subst e; first | exact absurd hn (by assumption) | assumption
          · exact hI j (by omega) hn
        ·
          (try dsimp only); omega
    ·
      refine exit ?_
      refine ke54 _ _ _ ?_
      refine ke46 _ _ _ ?_
      refine kb35 _ _ ?_
      refine kn24 _ _ ?_
      refine seqK fun Q130 kn131 kr132 ke133 => ?_
      refine region ?_
      refine st_q (v := .int .i64 ((m : Nat) : Int)) (x_move rfl) ?_
      have hno : ∀ k, k < es.length → (el es k).2.2 = true → pF ns es Pn k ≠ pT ns es Pn k := fun k hk => hI k (by omega)
      refine st_e (e_makeSlice T.sl38 rfl rfl (by omega) (by omega) ?_)
      intro w134 hA135
      have hx136 := hA135.ext
      have hs138 := hA135.size
      have hA135x : Al w38 w134 (.cells (flat enN (List.replicate m (0 : Nat))).toArray 3) := by rw [flat_repN]; exact hA135
      have hO137 := OB.new (lo := w17.heap.size) (k := 1) (c := m) hA135x (by omega) (by rw [flat_length enN_len]; simp) (by omega)
      have hF139 := hx136.e hx39 (Nat.le_refl _)
      have hE140 : Below w17.heap.size w17 w134 := hx136.e hE40 (Nat.le_refl _)
      have hz141 := hE140.le
      have hs142 := hx136.size
      have hl143 := hO137.lo
      have hl144 := hO137.lt
      refine st_q (v := .slice ((some ⟨w38.heap.size, 0, none⟩)) m m) (x_assign rfl) ?_
      refine st_nil ?_
      refine kn131 _ _ ?_
      refine seqK fun Q145 kn146 kr147 ke148 => ?_
      refine region ?_
      refine st_q (v := .int .i64 ((m : Nat) : Int)) (x_move rfl) ?_
      refine st_e (e_makeSlice T.sl63 rfl rfl (by omega) (by omega) ?_)
      intro w149 hA150
      have hx151 := hA150.ext
      have hs154 := hA150.size
      have hA150x : Al w134 w149 (.cells (flat enV (List.replicate m (.slice none 0 0))).toArray 38) := by rw [flat_repV]; exact hA150
      have hO152 := OB.new (lo := w17.heap.size) (k := 1) (c := m) hA150x (by omega) (by rw [flat_length enV_len]; simp) (by omega)
      have hF153 := Fam.nils (α := Nat) w149.heap w134.heap.size 3 enN m
      have hF155 := hx151.e hF139 (Nat.le_refl _)
      have hF156 := hO137.ext hx151
      have hE157 : Below w17.heap.size w17 w149 := hx151.e hE140 (Nat.le_refl _)
      have hz158 := hE157.le
      have hs159 := hx151.size
      have hl160 := hO152.lo
      have hl161 := hO152.lt
      refine st_q (v := .slice ((some ⟨w134.heap.size, 0, none⟩)) m m) (x_assign rfl) ?_
      refine st_nil ?_
      refine kn146 _ _ ?_
      refine seqK fun Q162 kn163 kr164 ke165 => ?_
      refine seqK fun Q166 kn167 kr168 ke169 => ?_
      refine region ?_
      refine st_q (v := .slice b es.length cb) (x_move rfl) ?_
      refine st_q (v := .int .i64 ((es.length : Nat) : Int)) (x_lenSl rfl Try.underlying23 rfl) ?_
      refine st_q (v := .int .i64 ((0 : Nat) : Int)) (x_move rfl) ?_
      refine st_nil ?_
      refine kn167 _ _ ?_
      refine blockK fun Q170 kn171 kr172 kx173 kb174 => ?_
      refine loopK (α := Nat × (List Value)) (fun x => [(1, .slice b es.length cb), (6, .pointer (some ⟨g, 0, none⟩)), (7, .slice ap ns.length cp), (11, .slice ((some ⟨w38.heap.size, 0, none⟩)) m m), (12, .slice ((some ⟨w134.heap.size, 0, none⟩)) m m), (69, .slice b es.length cb), (70, .int .i64 ((es.length : Nat) : Int)), (71, .int .i64 ((x.1 : Nat) : Int))]) (fun x w175 => Below w17.heap.size w17 w175 ∧ (x.1 ≤ es.length ∧ x.2.length = m ∧ OB w175.heap w17.heap.size 38 1 w134.heap.size m (flat enV x.2) ∧ Fam w175.heap w134.heap.size 3 enN x.2 (grp (zipI (pF ns es Pn) x.1) m)) ∧ OB w175.heap w17.heap.size 3 1 w38.heap.size m (flat enN (List.replicate m (0 : Nat)))) (fun x => es.length - x.1) (0, (List.replicate m (.slice none 0 0))) ⟨rfl, rfl, rfl, rfl, rfl, rfl, rfl, rfl, trivial⟩ ?_ ?_
      ·
        refine ⟨hE157, ?_⟩
        try dsimp only
        refine ⟨?_, hF156⟩
        exact ⟨Nat.zero_le _, by simp, hO152, (grp_nil (α := Nat) m).symm ▸ hF153⟩
      ·
        rintro τ176 ⟨i, vs⟩ w177 ⟨hx179, ⟨⟨hi, hvl, hOb, hF⟩, hC178⟩⟩
        try dsimp only at hi hvl hOb hF hC178
        have hz180 := hx179.le
        intro Q181 kn182 kr183 ke184
        have hl185 := hOb.lo
        have hl186 := hOb.lt
        refine seqK fun Q187 kn188 kr189 ke190 => ?_
        refine region ?_
        refine st_q (v := .bool (decide (i < es.length))) (x_lssN rfl rfl) ?_
        refine st_nil ?_
        refine kn188 _ _ ?_
        refine seqK fun Q191 kn192 kr193 ke194 => ?_
        refine cnd (p := i < es.length) rfl (fun h195 => ?_) (fun h195 => ?_)
        ·
          refine skip ?_
          refine kn192 _ _ ?_
          refine seqK fun Q196 kn197 kr198 ke199 => ?_
          refine blockK fun Q200 kn201 kr202 kx203 kb204 => ?_
          refine seqK fun Q205 kn206 kr207 ke208 => ?_
          refine region ?_
          refine st_q (v := .int .i64 ((i : Nat) : Int)) (x_move rfl) ?_
          obtain ⟨b209, o210, ha211, hc212⟩ := hb''.at (by omega)
          refine st_q (v := .pointer (some ⟨b209, o210 + i * 3, none⟩)) (x_index' T.sl23 rfl ha211 rfl (by omega)) ?_
          have hi1 := ixS_lt (hends i (by omega)).1
          have hi2 := ixS_lt (hends i (by omega)).2
          have hp1 : el Pn (ixS ns (el es i).1) < m := hK.pF_lt (by omega)
          refine st_q (v := .agg #[.string ((el es i).1), .string ((el es i).2.1), .bool ((el es i).2.2)]) (x_loadA [.string ((el es i).1), .string ((el es i).2.1), .bool ((el es i).2.2)] T.ag47 rfl ((hc212.below hx179).elem enE_len (i := i) (by omega))) ?_
          refine st_e (e_alloc T.zv47 ?_)
          intro w213 hA214
          have hx215 := hA214.ext
          have hs216 := hA214.size
          have hB217 : Blk w213.heap w177.heap.size [.string ByteArray.empty, .string ByteArray.empty, .bool false] 47 := hA214.new
          have hF218 := hC178.ext hx215
          have hF219 := hOb.ext hx215
          have hF220 := Fam.ext hF hx215
          have hE221 : Below w17.heap.size w17 w213 := hx215.e hx179 (Nat.le_refl _)
          have hz222 := hE221.le
          have hs223 := hx215.size
          refine st_q (v := .int .i64 ((i : Nat) : Int)) (x_assign rfl) ?_
          refine st_s (e_st (v := .agg #[.string ((el es i).1), .string ((el es i).2.1), .bool ((el es i).2.2)]) T.sz47 rfl rfl hB217 (by simp [Value.cells]) (by rfl) ?_)
          intro w224 hP225
          have hB226 : Blk w224.heap w177.heap.size [.string ((el es i).1), .string ((el es i).2.1), .bool ((el es i).2.2)] 47 := hP225.new
          have hs227 := hP225.size
          have hF228 := hF218.gk (hP225.grownBy) (hB217.rowk) (by decide)
          have hF229 := hF219.gk (hP225.grownBy) (hB217.rowk) (by decide)
          have hF230 := Fam.gk hF220 (hP225.grownBy) (hB217.rowk) (by decide)
          have hE231 : Below w17.heap.size w17 w224 := hP225.below hE221 (by omega)
          have hz232 := hE231.le
          refine st_nil ?_
          refine kn206 _ _ ?_
          refine seqK fun Q233 kn234 kr235 ke236 => ?_
          refine regionD1 [4, 6, 7, 9] [0, 1, 2, 3, 4, 5, 6, 7, 8, 9, 10] (.one 0 (.one 1 (.one 2 (.one 3 (.one 4 (.one 5 (.one 6 (.one 7 (.one 8 (.one 9 (.one 10 .done))))))))))) (by kernel_rfl) (by kernel_rfl) ?_
          intro w237 hx238 hs239
          have hB240 := hB226.ext hx238
          have hF241 := hF228.ext hx238
          have hF242 := hF229.ext hx238
          have hF243 := Fam.ext hF230 hx238
          have hE244 : Below w17.heap.size w17 w237 := hx238.e hE231 (Nat.le_refl _)
          have hz245 := hE244.le
          have hs246 := hx238.size
          have hS247 : Ext w237 w237 := Below.refl _ _
          refine d_q (v := .slice ap ns.length cp) rfl rfl (fun _ => x_move rfl) ?_
          refine d_q (v := .pointer (some ⟨g, 0, none⟩)) rfl rfl (fun _ => x_move rfl) ?_
          refine d_q (v := .pointer (some ⟨g, 0, none⟩)) rfl rfl (fun _ => x_nilCheck rfl) ?_
          refine d_q (v := .pointer (some ⟨g, 1, none⟩)) rfl rfl (fun _ => x_field (o := 0) T.fa65_1 rfl) ?_
          refine d_l (v := .map (some D.bm)) rfl rfl rfl (fun v249 hw248 => x_load1 T.na62 rfl (((hN2.blk.keep (hE244.block _ hN2.blk.lt)).one 1 rfl).ext hw248)) ?_
          refine d_q (v := .pointer (some ⟨w177.heap.size, 0, none⟩)) rfl rfl (fun _ => x_field (o := 0) T.fa47_0 rfl) ?_
          refine d_l (v := .string ((el es i).1)) rfl rfl rfl (fun v251 hw250 => x_load1 T.na9 rfl ((hB240.one 0 rfl).ext hw250)) ?_
          refine d_l (v := .int .i64 (((ixS ns ((el es i).1)) : Nat) : Int)) rfl rfl rfl (fun v253 hw252 => x_lookupM rfl rfl Try.underlying9 Try.underlying3 Try.underlying62 zeroI (OMap.ext (OMap.belowW hN2.map hE244) hw252) (hN2.fitn _ (hends _ (by omega)).1) (hends _ (by omega)).1) ?_
          obtain ⟨b254, o255, ha256, hc257⟩ := hPs.at (by omega)
          refine d_q (v := .pointer (some ⟨b254, o255 + ((ixS ns ((el es i).1))) * 1, none⟩)) rfl rfl (fun _ => x_index' T.sl38 rfl ha256 rfl (by omega)) ?_
          refine d_l (v := .int .i64 (((el Pn ((ixS ns ((el es i).1)))) : Nat) : Int)) rfl rfl rfl (fun v259 hw258 => x_load1 T.na3 rfl (((hc257.below hE244).elem enN_len (i := (ixS ns ((el es i).1))) (by omega)).ext hw258)) ?_
          refine d_q (v := .int .i64 (((el Pn ((ixS ns ((el es i).1)))) : Nat) : Int)) rfl rfl (fun _ => x_assign rfl) ?_
          refine d_done ?_
          refine kn234 _ _ ?_
          refine region ?_
          refine st_q (v := .slice ((some ⟨w134.heap.size, 0, none⟩)) m m) (x_move rfl) ?_
          refine st_q (v := .int .i64 (((el Pn ((ixS ns ((el es i).1)))) : Nat) : Int)) (x_move rfl) ?_
          refine st_q (v := .slice ((some ⟨w134.heap.size, 0, none⟩)) m m) (x_move rfl) ?_
          refine st_q (v := .int .i64 (((el Pn ((ixS ns ((el es i).1)))) : Nat) : Int)) (x_move rfl) ?_
          refine st_q (v := .pointer (some ⟨w134.heap.size, 0 + ((el Pn ((ixS ns ((el es i).1))))) * 1, none⟩)) (x_index T.sl63 rfl rfl (by omega)) ?_
          refine st_q (v := el vs ((el Pn ((ixS ns ((el es i).1)))))) (x_load1 T.na38 rfl (hF242.cells.elem enV_len (i := (el Pn ((ixS ns ((el es i).1))))) (by omega))) ?_
          refine st_q (v := .int .i64 ((i : Nat) : Int)) (x_move rfl) ?_
          refine st_e (e_buildSlice (cs := [.int .i64 ((i : Nat) : Int)]) (e := 3) (fun _ => by kernel_rfl) ?_)
          intro w260 hA261
          have hx262 := hA261.ext
          have hs263 := hA261.size
          have hB264 : Blk w260.heap w237.heap.size [.int .i64 ((i : Nat) : Int)] 3 := hA261.new
          have hB265 := hB240.ext hx262
          have hF266 := hF241.ext hx262
          have hF267 := hF242.ext hx262
          have hF268 := Fam.ext hF243 hx262
          have hE269 : Below w17.heap.size w17 w260 := hx262.e hE244 (Nat.le_refl _)
          have hz270 := hE269.le
          have hs271 := hx262.size
          have hrl : (el (grp (zipI (pF ns es Pn) i) m) (el Pn (ixS ns (el es i).1))).length ≤ i := zip_row_le hp1
          have ho278 := hF268.own (el Pn (ixS ns (el es i).1)) (by have := hF268.len; omega)
          refine st_e (e_appendX T.sl38 rfl rfl ho278 (hB264.src1 (k := 1) (m := 1) rfl (by omega)) (ones (by rfl)) (by omega) (by decide) (by omega) ?_)
          intro v272 w273 hO274 hG275 hN276 hW277
          obtain ⟨a279, c280, rfl, _, _⟩ := hO274.src.form
          have hB281 := hB265.gk (hG275) (ho278.rowk) (by decide)
          have hF282 := hF266.grown hG275 (fun e => by have := (ho278.lt e).1; omega)
          have hF283 := hF267.gk (hG275) (ho278.rowk) (by decide)
          have hE284 : Below w17.heap.size w17 w273 := grown_below hG275 hE269 (Nat.le_refl _) (fun b hb => by have := (ho278.lt hb).1; omega)
          have hz285 := hE284.le
          have hs286 := hG275.size
          have hF287 := Fam.push hF268 (a := el Pn (ixS ns (el es i).1)) (by have := hF268.len; omega) (xs' := el (grp (zipI (pF ns es Pn) i) m) (el Pn (ixS ns (el es i).1)) ++ [i]) (by simp) (Own.snoc (enc := enN) (u := i) hO274) hG275 hW277
          refine st_q (v := .pointer (some ⟨w134.heap.size, 0 + ((el Pn ((ixS ns ((el es i).1))))) * 1, none⟩)) (x_index T.sl63 rfl rfl (by omega)) ?_
          refine st_s (e_stO (v := .slice a279 (((el (grp (zipI (pF ns es Pn) i) m) (el Pn (ixS ns (el es i).1))).length + 1)) c280) (u := .slice a279 (((el (grp (zipI (pF ns es Pn) i) m) (el Pn (ixS ns (el es i).1))).length + 1)) c280) enV_len T.sz38 rfl rfl rfl hF283 (by first | omega | (rw [List.length_set]; omega)) (by rfl) ?_)
          intro w288 _ hP289 hB290
          have hs291 := hP289.size
          have hB292 := hB281.gk (hP289.grownBy) (hF283.rowk) (by decide)
          have hF293 := hF282.gk (hP289.grownBy) (hF283.rowk) (by decide)
          have hF294 := Fam.gk hF287 (hP289.grownBy) (hF283.rowk) (by decide)
          have hE295 : Below w17.heap.size w17 w288 := hP289.below hE284 (by omega)
          have hz296 := hE295.le
          refine st_nil ?_
          refine kn201 _ _ ?_
          refine kn197 _ _ ?_
          refine region ?_
          refine st_q (v := .int .i64 (((i + 1) : Nat) : Int)) (x_addN rfl rfl (by omega)) ?_
          refine st_q (v := .int .i64 (((i + 1) : Nat) : Int)) (x_move rfl) ?_
          refine st_nil ?_
          refine kn182 _ ((i + 1), (vs.set ((el Pn ((ixS ns ((el es i).1))))) (.slice a279 (((el (grp (zipI (pF ns es Pn) i) m) (el Pn (ixS ns (el es i).1))).length + 1)) c280))) _ ⟨rfl, rfl, rfl, rfl, rfl, rfl, rfl, rfl, trivial⟩ ⟨hE295, ?_⟩ ?_
          ·
            try dsimp only
            refine ⟨?_, hF293⟩
            refine ⟨by omega, by rw [List.length_set]; exact hvl, hB290, ?_⟩
            rw [zipI_succ, grp_snoc (a := pF ns es Pn i) hp1]
            exact hF294
          ·
            (try dsimp only); omega
        ·
          refine exit ?_
          refine ke194 _ _ _ ?_
          refine ke184 _ _ _ ?_
          refine kb174 _ _ ?_
          refine kn163 _ _ ?_
          refine seqK fun Q297 kn298 kr299 ke300 => ?_
          refine seqK fun Q301 kn302 kr303 ke304 => ?_
          refine region ?_
          have e0 : i = es.length := by omega
          have hF305 : Fam w177.heap w134.heap.size 3 enN vs (grp (zipI (pF ns es Pn) es.length) m) := e0 ▸ hF
          refine st_q (v := .slice ((some ⟨w134.heap.size, 0, none⟩)) m m) (x_move rfl) ?_
          refine st_q (v := .int .i64 ((m : Nat) : Int)) (x_lenSl rfl Try.underlying63 rfl) ?_
          refine st_q (v := .int .i64 ((0 : Nat) : Int)) (x_move rfl) ?_
          refine st_nil ?_
          refine kn302 _ _ ?_
          refine blockK fun Q306 kn307 kr308 kx309 kb310 => ?_
          refine loopK (α := Nat × (List Nat)) (fun x => [(1, .slice b es.length cb), (6, .pointer (some ⟨g, 0, none⟩)), (7, .slice ap ns.length cp), (11, .slice ((some ⟨w38.heap.size, 0, none⟩)) m m), (97, .slice ((some ⟨w134.heap.size, 0, none⟩)) m m), (98, .int .i64 ((m : Nat) : Int)), (99, .int .i64 ((x.1 : Nat) : Int))]) (fun x w311 => Below w17.heap.size w17 w311 ∧ (x.1 ≤ m ∧ LvI ns es Pn m x.1 0 x.2 ∧ OB w311.heap w17.heap.size 3 1 w38.heap.size m (flat enN x.2)) ∧ OB w311.heap w17.heap.size 38 1 w134.heap.size m (flat enV vs) ∧ Fam w311.heap w134.heap.size 3 enN vs (grp (zipI (pF ns es Pn) es.length) m)) (fun x => m - x.1) (0, (List.replicate m 0)) ⟨rfl, rfl, rfl, rfl, rfl, rfl, rfl, trivial⟩ ?_ ?_
          ·
            refine ⟨hx179, ?_⟩
            try dsimp only
            refine ⟨?_, hOb, hF305⟩
            exact ⟨Nat.zero_le _, LvI.start m ns es Pn hK, hC178⟩
          ·
            rintro τ312 ⟨p, lv⟩ w313 ⟨hx316, ⟨⟨hp, hLv, hOl⟩, hC314, hC315⟩⟩
            try dsimp only at hp hLv hOl hC314 hC315
            have hz317 := hx316.le
            intro Q318 kn319 kr320 ke321
            have hl322 := hOl.lo
            have hl323 := hOl.lt
            have hlvl := hLv.len
            refine seqK fun Q324 kn325 kr326 ke327 => ?_
            refine region ?_
            refine st_q (v := .bool (decide (p < m))) (x_lssN rfl rfl) ?_
            refine st_nil ?_
            refine kn325 _ _ ?_
            refine seqK fun Q328 kn329 kr330 ke331 => ?_
            refine cnd (p := p < m) rfl (fun h332 => ?_) (fun h332 => ?_)
            ·
              refine skip ?_
              refine kn329 _ _ ?_
              refine seqK fun Q333 kn334 kr335 ke336 => ?_
              refine blockK fun Q337 kn338 kr339 kx340 kb341 => ?_
              refine seqK fun Q342 kn343 kr344 ke345 => ?_
              refine region ?_
              refine st_q (v := .int .i64 ((p : Nat) : Int)) (x_move rfl) ?_
              refine st_q (v := .pointer (some ⟨w134.heap.size, 0 + p * 1, none⟩)) (x_index T.sl63 rfl rfl (by omega)) ?_
              have hr349 := hC315.own p (by have := hC315.len; omega)
              obtain ⟨q346, c347, e348, _, _⟩ := hr349.src.form
              rw [e348] at hr349
              refine st_q (v := .slice q346 ((el (grp (zipI (pF ns es Pn) es.length) m) p).length) c347) (x_load1 T.na38 rfl (Cells.conv (hC314.cells.elem enV_len (i := p) (by omega)) e348)) ?_
              refine st_q (v := .int .i64 ((p : Nat) : Int)) (x_assign rfl) ?_
              refine st_q (v := .slice q346 ((el (grp (zipI (pF ns es Pn) es.length) m) p).length) c347) (x_assign rfl) ?_
              refine st_nil ?_
              refine kn343 _ _ ?_
              refine seqK fun Q350 kn351 kr352 ke353 => ?_
              refine region ?_
              refine st_q (v := .slice q346 ((el (grp (zipI (pF ns es Pn) es.length) m) p).length) c347) (x_move rfl) ?_
              refine st_q (v := .int .i64 (((el (grp (zipI (pF ns es Pn) es.length) m) p).length : Nat) : Int)) (x_lenSl rfl Try.underlying38 rfl) ?_
              refine st_q (v := .int .i64 ((0 : Nat) : Int)) (x_move rfl) ?_
              refine st_nil ?_
              refine kn351 _ _ ?_
              refine blockK fun Q354 kn355 kr356 kx357 kb358 => ?_
              refine loopK (α := Nat × (List Nat)) (fun x => [(1, .slice b es.length cb), (6, .pointer (some ⟨g, 0, none⟩)), (7, .slice ap ns.length cp), (11, .slice ((some ⟨w38.heap.size, 0, none⟩)) m m), (16, .int .i64 ((p : Nat) : Int)), (97, .slice ((some ⟨w134.heap.size, 0, none⟩)) m m), (98, .int .i64 ((m : Nat) : Int)), (99, .int .i64 ((p : Nat) : Int)), (104, .slice q346 ((el (grp (zipI (pF ns es Pn) es.length) m) p).length) c347), (105, .int .i64 (((el (grp (zipI (pF ns es Pn) es.length) m) p).length : Nat) : Int)), (106, .int .i64 ((x.1 : Nat) : Int))]) (fun x w359 => Below w17.heap.size w17 w359 ∧ (x.1 ≤ (el (grp (zipI (pF ns es Pn) es.length) m) p).length ∧ LvI ns es Pn m p x.1 x.2 ∧ OB w359.heap w17.heap.size 3 1 w38.heap.size m (flat enN x.2)) ∧ OB w359.heap w17.heap.size 38 1 w134.heap.size m (flat enV vs) ∧ Fam w359.heap w134.heap.size 3 enN vs (grp (zipI (pF ns es Pn) es.length) m) ∧ Own w359.heap w134.heap.size 3 1 (.slice q346 (el (grp (zipI (pF ns es Pn) es.length) m) p).length c347) (el (grp (zipI (pF ns es Pn) es.length) m) p).length (flat enN (el (grp (zipI (pF ns es Pn) es.length) m) p))) (fun x => (el (grp (zipI (pF ns es Pn) es.length) m) p).length - x.1) (0, lv) ⟨rfl, rfl, rfl, rfl, rfl, rfl, rfl, rfl, rfl, rfl, rfl, trivial⟩ ?_ ?_
              ·
                refine ⟨hx316, ?_⟩
                try dsimp only
                refine ⟨?_, hC314, hC315, hr349⟩
                exact ⟨Nat.zero_le _, hLv, hOl⟩
              ·
                rintro τ360 ⟨j, lv2⟩ w361 ⟨hx365, ⟨⟨hj, hLj, hOl2⟩, hC362, hC363, hC364⟩⟩
                try dsimp only at hj hLj hOl2 hC362 hC363 hC364
                have hz366 := hx365.le
                intro Q367 kn368 kr369 ke370
                have hl371 := hOl2.lo
                have hl372 := hOl2.lt
                have hlvl2 := hLj.len
                have hrl : (el (grp (zipI (pF ns es Pn) es.length) m) p).length ≤ es.length := zip_row_le (by omega)
                refine seqK fun Q373 kn374 kr375 ke376 => ?_
                refine region ?_
                refine st_q (v := .bool (decide (j < ((el (grp (zipI (pF ns es Pn) es.length) m) p).length)))) (x_lssN rfl rfl) ?_
                refine st_nil ?_
                refine kn374 _ _ ?_
                refine seqK fun Q377 kn378 kr379 ke380 => ?_
                refine cnd (p := j < ((el (grp (zipI (pF ns es Pn) es.length) m) p).length)) rfl (fun h381 => ?_) (fun h381 => ?_)
                ·
                  refine skip ?_
                  refine kn378 _ _ ?_
                  refine seqK fun Q382 kn383 kr384 ke385 => ?_
                  refine blockK fun Q386 kn387 kr388 kx389 kb390 => ?_
                  refine seqK fun Q391 kn392 kr393 ke394 => ?_
                  refine region ?_
                  obtain ⟨b395, o396, ha397, hc398⟩ := hC364.src.at (by omega)
                  refine st_q (v := .pointer (some ⟨b395, o396 + j * 1, none⟩)) (x_index' T.sl38 rfl ha397 rfl (by omega)) ?_
                  have hek := zip_row_el (f := pF ns es Pn) (i := es.length) (m := m) (a := p) (j := j) (by omega) (by omega)
                  have hek1 := hek.1
                  have hi3 := ixS_lt (hends _ hek1).2
                  have hp3 : el Pn (ixS ns (el es (el (el (grp (zipI (pF ns es Pn) es.length) m) p) j)).2.1) < m := hK.pT_lt hek1
                  have hlb : el lv2 (el Pn (ixS ns (el es (el (el (grp (zipI (pF ns es Pn) es.length) m) p) j)).2.1)) ≤ el Pn (ixS ns (el es (el (el (grp (zipI (pF ns es Pn) es.length) m) p) j)).2.1) := hLj.bnd hK hno hp3
                  have hlb2 : el lv2 p ≤ p := hLj.bnd hK hno (by omega)
                  refine st_q (v := .int .i64 (((el (el (grp (zipI (pF ns es Pn) es.length) m) p) j) : Nat) : Int)) (x_load1 T.na3 rfl (hc398.elem enN_len (i := j) (by omega))) ?_
                  refine st_q (v := .int .i64 (((el (el (grp (zipI (pF ns es Pn) es.length) m) p) j) : Nat) : Int)) (x_assign rfl) ?_
                  refine st_nil ?_
                  refine kn392 _ _ ?_
                  refine seqK fun Q399 kn400 kr401 ke402 => ?_
                  refine regionD1 [5, 10, 11, 13, 15] [0, 1, 2, 3, 4, 5, 6, 7, 8, 9, 10, 11, 12, 13, 14, 15, 16] (.one 0 (.one 1 (.one 2 (.one 3 (.one 4 (.one 5 (.one 6 (.one 7 (.one 8 (.one 9 (.one 10 (.one 11 (.one 12 (.one 13 (.one 14 (.one 15 (.one 16 .done))))))))))))))))) (by kernel_rfl) (by kernel_rfl) ?_
                  intro w403 hx404 hs405
                  have hF406 := hC362.ext hx404
                  have hF407 := Fam.ext hC363 hx404
                  have hF408 := hC364.ext hx404
                  have hF409 := hOl2.ext hx404
                  have hF410 := hc398.ext hx404
                  have hE411 : Below w17.heap.size w17 w403 := hx404.e hx365 (Nat.le_refl _)
                  have hz412 := hE411.le
                  have hs413 := hx404.size
                  have hS414 : Ext w403 w403 := Below.refl _ _
                  refine d_q (v := .slice ((some ⟨w38.heap.size, 0, none⟩)) m m) rfl rfl (fun _ => x_move rfl) ?_
                  refine d_q (v := .slice ap ns.length cp) rfl rfl (fun _ => x_move rfl) ?_
                  refine d_q (v := .pointer (some ⟨g, 0, none⟩)) rfl rfl (fun _ => x_move rfl) ?_
                  refine d_q (v := .pointer (some ⟨g, 0, none⟩)) rfl rfl (fun _ => x_nilCheck rfl) ?_
                  refine d_q (v := .pointer (some ⟨g, 1, none⟩)) rfl rfl (fun _ => x_field (o := 0) T.fa65_1 rfl) ?_
                  refine d_l (v := .map (some D.bm)) rfl rfl rfl (fun v416 hw415 => x_load1 T.na62 rfl (((hN2.blk.keep (hE411.block _ hN2.blk.lt)).one 1 rfl).ext hw415)) ?_
                  refine d_q (v := .slice b es.length cb) rfl rfl (fun _ => x_move rfl) ?_
                  refine d_q (v := .int .i64 (((el (el (grp (zipI (pF ns es Pn) es.length) m) p) j) : Nat) : Int)) rfl rfl (fun _ => x_move rfl) ?_
                  obtain ⟨b417, o418, ha419, hc420⟩ := hb''.at (by omega)
                  refine d_q (v := .pointer (some ⟨b417, o418 + ((el (el (grp (zipI (pF ns es Pn) es.length) m) p) j)) * 3, none⟩)) rfl rfl (fun _ => x_index' T.sl23 rfl ha419 rfl (by omega)) ?_
                  refine d_q (v := .pointer (some ⟨b417, o418 + ((el (el (grp (zipI (pF ns es Pn) es.length) m) p) j)) * 3 + 1, none⟩)) rfl rfl (fun _ => x_field (o := o418 + ((el (el (grp (zipI (pF ns es Pn) es.length) m) p) j)) * 3) T.fa47_1 rfl) ?_
                  refine d_l (v := .string ((el es ((el (el (grp (zipI (pF ns es Pn) es.length) m) p) j))).2.1)) rfl rfl rfl (fun v422 hw421 => x_load1 T.na9 rfl ((((hc420.below hE411).elem enE_len (i := (el (el (grp (zipI (pF ns es Pn) es.length) m) p) j)) (by omega)).fld 1 rfl).ext hw421)) ?_
                  refine d_l (v := .int .i64 (((ixS ns ((el es ((el (el (grp (zipI (pF ns es Pn) es.length) m) p) j))).2.1)) : Nat) : Int)) rfl rfl rfl (fun v424 hw423 => x_lookupM rfl rfl Try.underlying9 Try.underlying3 Try.underlying62 zeroI (OMap.ext (OMap.belowW hN2.map hE411) hw423) (hN2.fitn _ (hends _ hek1).2) (hends _ hek1).2) ?_
                  obtain ⟨b425, o426, ha427, hc428⟩ := hPs.at (by omega)
                  refine d_q (v := .pointer (some ⟨b425, o426 + ((ixS ns ((el es ((el (el (grp (zipI (pF ns es Pn) es.length) m) p) j))).2.1))) * 1, none⟩)) rfl rfl (fun _ => x_index' T.sl38 rfl ha427 rfl (by omega)) ?_
                  refine d_l (v := .int .i64 (((el Pn ((ixS ns ((el es ((el (el (grp (zipI (pF ns es Pn) es.length) m) p) j))).2.1)))) : Nat) : Int)) rfl rfl rfl (fun v430 hw429 => x_load1 T.na3 rfl (((hc428.below hE411).elem enN_len (i := (ixS ns ((el es ((el (el (grp (zipI (pF ns es Pn) es.length) m) p) j))).2.1))) (by omega)).ext hw429)) ?_
                  refine d_q (v := .pointer (some ⟨w38.heap.size, 0 + ((el Pn ((ixS ns ((el es ((el (el (grp (zipI (pF ns es Pn) es.length) m) p) j))).2.1))))) * 1, none⟩)) rfl rfl (fun _ => x_index T.sl38 rfl rfl (by omega)) ?_
                  refine d_l (v := .int .i64 (((el lv2 ((el Pn ((ixS ns ((el es ((el (el (grp (zipI (pF ns es Pn) es.length) m) p) j))).2.1)))))) : Nat) : Int)) rfl rfl rfl (fun v432 hw431 => x_load1 T.na3 rfl ((hF409.cells.elem enN_len (i := (el Pn ((ixS ns ((el es ((el (el (grp (zipI (pF ns es Pn) es.length) m) p) j))).2.1))))) (by omega)).ext hw431)) ?_
                  refine d_q (v := .int .i64 (((el lv2 ((el Pn ((ixS ns ((el es ((el (el (grp (zipI (pF ns es Pn) es.length) m) p) j))).2.1)))))) : Nat) : Int)) rfl rfl (fun _ => x_assign rfl) ?_
                  refine d_done ?_
                  refine kn400 _ _ ?_
                  refine seqK fun Q433 kn434 kr435 ke436 => ?_
                  refine seqK fun Q437 kn438 kr439 ke440 => ?_
                  refine region ?_
                  refine st_q (v := .slice b es.length cb) (x_move rfl) ?_
                  refine st_q (v := .int .i64 (((el (el (grp (zipI (pF ns es Pn) es.length) m) p) j) : Nat) : Int)) (x_move rfl) ?_
                  refine st_q (v := .pointer (some ⟨b417, o418 + ((el (el (grp (zipI (pF ns es Pn) es.length) m) p) j)) * 3, none⟩)) (x_index' T.sl23 rfl ha419 rfl (by omega)) ?_
                  refine st_q (v := .pointer (some ⟨b417, o418 + ((el (el (grp (zipI (pF ns es Pn) es.length) m) p) j)) * 3 + 2, none⟩)) (x_field (o := o418 + ((el (el (grp (zipI (pF ns es Pn) es.length) m) p) j)) * 3) T.fa47_2 rfl) ?_
                  refine st_q (v := .bool ((el es ((el (el (grp (zipI (pF ns es Pn) es.length) m) p) j))).2.2)) (x_load1 T.na4 rfl (((hc420.below hE411).elem enE_len (i := (el (el (grp (zipI (pF ns es Pn) es.length) m) p) j)) (by omega)).fld 2 rfl)) ?_
                  refine st_nil ?_
                  refine kn438 _ _ ?_
                  refine cndB (b := (el es ((el (el (grp (zipI (pF ns es Pn) es.length) m) p) j))).2.2) rfl (fun h441 => ?_) (fun h441 => ?_)
                  ·
                    refine region ?_
                    refine st_q (v := .int .i64 (((el lv2 ((el Pn ((ixS ns ((el es ((el (el (grp (zipI (pF ns es Pn) es.length) m) p) j))).2.1)))))) : Nat) : Int)) (x_move rfl) ?_
                    refine st_q (v := .int .i64 ((((el lv2 ((el Pn ((ixS ns ((el es ((el (el (grp (zipI (pF ns es Pn) es.length) m) p) j))).2.1)))))) + 1) : Nat) : Int)) (x_addN rfl rfl (by omega)) ?_
                    refine st_q (v := .int .i64 ((((el lv2 ((el Pn ((ixS ns ((el es ((el (el (grp (zipI (pF ns es Pn) es.length) m) p) j))).2.1)))))) + 1) : Nat) : Int)) (x_assign rfl) ?_
                    refine st_nil ?_
                    refine kn434 _ _ ?_
                    refine region ?_
                    refine st_q (v := .slice ((some ⟨w38.heap.size, 0, none⟩)) m m) (x_move rfl) ?_
                    refine st_q (v := .int .i64 ((p : Nat) : Int)) (x_move rfl) ?_
                    refine st_q (v := .slice ((some ⟨w38.heap.size, 0, none⟩)) m m) (x_move rfl) ?_
                    refine st_q (v := .int .i64 ((p : Nat) : Int)) (x_move rfl) ?_
                    refine st_q (v := .pointer (some ⟨w38.heap.size, 0 + p * 1, none⟩)) (x_index T.sl38 rfl rfl (by omega)) ?_
                    refine st_q (v := .int .i64 (((el lv2 p) : Nat) : Int)) (x_load1 T.na3 rfl (hF409.cells.elem enN_len (i := p) (by omega))) ?_
                    refine st_q (v := .int .i64 ((((el lv2 ((el Pn ((ixS ns ((el es ((el (el (grp (zipI (pF ns es Pn) es.length) m) p) j))).2.1)))))) + 1) : Nat) : Int)) (x_move rfl) ?_
                    refine st_q (v := .int .i64 (((max ((el lv2 p)) (((el lv2 ((el Pn ((ixS ns ((el es ((el (el (grp (zipI (pF ns es Pn) es.length) m) p) j))).2.1)))))) + 1))) : Nat) : Int)) (x_maxN rfl rfl) ?_
                    refine st_q (v := .pointer (some ⟨w38.heap.size, 0 + p * 1, none⟩)) (x_index T.sl38 rfl rfl (by omega)) ?_
                    refine st_s (e_stO (v := .int .i64 (((max ((el lv2 p)) (((el lv2 ((el Pn ((ixS ns ((el es ((el (el (grp (zipI (pF ns es Pn) es.length) m) p) j))).2.1)))))) + 1))) : Nat) : Int)) (u := (max ((el lv2 p)) (((el lv2 ((el Pn ((ixS ns ((el es ((el (el (grp (zipI (pF ns es Pn) es.length) m) p) j))).2.1)))))) + 1)))) enN_len T.sz3 rfl rfl rfl hF409 (by first | omega | (rw [List.length_set]; omega)) (by rfl) ?_)
                    intro w442 _ hP443 hB444
                    have hs445 := hP443.size
                    have hF446 := hF406.gk (hP443.grownBy) (hF409.rowk) (by decide)
                    have hF447 := Fam.ptLt hF407 hP443 (by omega)
                    have hF448 := hF408.pt hP443 (by first | (intro e; have := (hF408.lt e).1; clear e; omega) | (simp [Value.ownBlock]; omega))
                    have hE450 : Below w17.heap.size w17 w442 := hP443.below hE411 (by omega)
                    have hz451 := hE450.le
                    refine st_nil ?_
                    refine kn387 _ _ ?_
                    refine kn383 _ _ ?_
                    refine region ?_
                    refine st_q (v := .int .i64 (((j + 1) : Nat) : Int)) (x_addN rfl rfl (by omega)) ?_
                    refine st_q (v := .int .i64 (((j + 1) : Nat) : Int)) (x_move rfl) ?_
                    refine st_nil ?_
                    refine kn368 _ ((j + 1), (lv2.set p ((max ((el lv2 p)) (((el lv2 ((el Pn ((ixS ns ((el es ((el (el (grp (zipI (pF ns es Pn) es.length) m) p) j))).2.1)))))) + 1)))))) _ ⟨rfl, rfl, rfl, rfl, rfl, rfl, rfl, rfl, rfl, rfl, rfl, trivial⟩ ⟨hE450, ?_⟩ ?_
                    ·
                      try dsimp only
                      refine ⟨?_, hF446, hF447, hF448⟩
                      exact ⟨by omega, hLj.step hK hno (by omega) (by omega) rfl (by unfold ng; rw [if_pos (by assumption)]; rfl), hB444⟩
                    ·
                      (try dsimp only); omega
                  ·
                    refine skip ?_
                    refine kn434 _ _ ?_
                    refine region ?_
                    refine st_q (v := .slice ((some ⟨w38.heap.size, 0, none⟩)) m m) (x_move rfl) ?_
                    refine st_q (v := .int .i64 ((p : Nat) : Int)) (x_move rfl) ?_
                    refine st_q (v := .slice ((some ⟨w38.heap.size, 0, none⟩)) m m) (x_move rfl) ?_
                    refine st_q (v := .int .i64 ((p : Nat) : Int)) (x_move rfl) ?_
                    refine st_q (v := .pointer (some ⟨w38.heap.size, 0 + p * 1, none⟩)) (x_index T.sl38 rfl rfl (by omega)) ?_
                    refine st_q (v := .int .i64 (((el lv2 p) : Nat) : Int)) (x_load1 T.na3 rfl (hF409.cells.elem enN_len (i := p) (by omega))) ?_
                    refine st_q (v := .int .i64 (((el lv2 ((el Pn ((ixS ns ((el es ((el (el (grp (zipI (pF ns es Pn) es.length) m) p) j))).2.1)))))) : Nat) : Int)) (x_move rfl) ?_
                    refine st_q (v := .int .i64 (((max ((el lv2 p)) ((el lv2 ((el Pn ((ixS ns ((el es ((el (el (grp (zipI (pF ns es Pn) es.length) m) p) j))).2.1)))))))) : Nat) : Int)) (x_maxN rfl rfl) ?_
                    refine st_q (v := .pointer (some ⟨w38.heap.size, 0 + p * 1, none⟩)) (x_index T.sl38 rfl rfl (by omega)) ?_
                    refine st_s (e_stO (v := .int .i64 (((max ((el lv2 p)) ((el lv2 ((el Pn ((ixS ns ((el es ((el (el (grp (zipI (pF ns es Pn) es.length) m) p) j))).2.1)))))))) : Nat) : Int)) (u := (max ((el lv2 p)) ((el lv2 ((el Pn ((ixS ns ((el es ((el (el (grp (zipI (pF ns es Pn) es.length) m) p) j))).2.1))))))))) enN_len T.sz3 rfl rfl rfl hF409 (by first | omega | (rw [List.length_set]; omega)) (by rfl) ?_)
                    intro w452 _ hP453 hB454
                    have hs455 := hP453.size
                    have hF456 := hF406.gk (hP453.grownBy) (hF409.rowk) (by decide)
                    have hF457 := Fam.ptLt hF407 hP453 (by omega)
                    have hF458 := hF408.pt hP453 (by first | (intro e; have := (hF408.lt e).1; clear e; omega) | (simp [Value.ownBlock]; omega))
                    have hE460 : Below w17.heap.size w17 w452 := hP453.below hE411 (by omega)
                    have hz461 := hE460.le
                    refine st_nil ?_
                    refine kn387 _ _ ?_
                    refine kn383 _ _ ?_
                    refine region ?_
                    refine st_q (v := .int .i64 (((j + 1) : Nat) : Int)) (x_addN rfl rfl (by omega)) ?_
                    refine st_q (v := .int .i64 (((j + 1) : Nat) : Int)) (x_move rfl) ?_
                    refine st_nil ?_
                    refine kn368 _ ((j + 1), (lv2.set p ((max ((el lv2 p)) ((el lv2 ((el Pn ((ixS ns ((el es ((el (el (grp (zipI (pF ns es Pn) es.length) m) p) j))).2.1))))))))))) _ ⟨rfl, rfl, rfl, rfl, rfl, rfl, rfl, rfl, rfl, rfl, rfl, trivial⟩ ⟨hE460, ?_⟩ ?_
                    ·
                      try dsimp only
                      refine ⟨?_, hF456, hF457, hF458⟩
                      exact ⟨by omega, hLj.step hK hno (by omega) (by omega) rfl (by unfold ng; rw [if_neg (by simpa using (by assumption : _ = false))]; rfl), hB454⟩
                    ·
                      (try dsimp only); omega
                ·
                  refine exit ?_
                  refine ke380 _ _ _ ?_
                  refine ke370 _ _ _ ?_
                  refine kb358 _ _ ?_
                  refine kn338 _ _ ?_
                  refine kn334 _ _ ?_
                  refine region ?_
                  refine st_q (v := .int .i64 (((p + 1) : Nat) : Int)) (x_addN rfl rfl (by omega)) ?_
                  refine st_q (v := .int .i64 (((p + 1) : Nat) : Int)) (x_move rfl) ?_
                  refine st_nil ?_
                  refine kn319 _ ((p + 1), lv2) _ ⟨rfl, rfl, rfl, rfl, rfl, rfl, rfl, trivial⟩ ⟨hx365, ?_⟩ ?_
                  ·
                    try dsimp only
                    refine ⟨?_, hC362, hC363⟩
                    obtain rfl : j = (el (grp (zipI (pF ns es Pn) es.length) m) p).length := by omega
                    exact ⟨by omega, hLj.nextp (by omega), hOl2⟩
                  ·
                    (try dsimp only); omega
            ·
              refine exit ?_
              refine ke331 _ _ _ ?_
              refine ke321 _ _ _ ?_
              refine kb310 _ _ ?_
              refine kn298 _ _ ?_
              refine seqK fun Q462 kn463 kr464 ke465 => ?_
              refine region ?_
              refine st_q (v := .pointer (some ⟨g, 0, none⟩)) (x_move rfl) ?_
              refine st_q (v := .pointer (some ⟨g, 0, none⟩)) (x_nilCheck rfl) ?_
              refine st_q (v := .pointer (some ⟨g, 0, none⟩)) (x_field (o := 0) T.fa65_0 rfl) ?_
              refine st_q (v := .slice D.na ns.length D.nc) (x_load1 T.na22 rfl ((hN2.blk.keep (hx316.block _ hN2.blk.lt)).one 0 rfl)) ?_
              refine st_q (v := .int .i64 ((ns.length : Nat) : Int)) (x_lenSl rfl Try.underlying22 rfl) ?_
              refine st_e (e_makeSlice T.sl32 rfl rfl (by omega) (by omega) ?_)
              intro w466 hA467
              have hx468 := hA467.ext
              have hs470 := hA467.size
              have hA467x : Al w313 w466 (.cells (flat enR (List.replicate ns.length ((ByteArray.empty, 0) : Rank))).toArray 45) := by rw [flat_repR]; exact hA467
              have hO469 := OB.new (lo := w17.heap.size) (k := 2) (c := ns.length) hA467x (by omega) (by rw [flat_length enR_len]; simp) (by omega)
              have hF471 := hC314.ext hx468
              have hF472 := Fam.ext hC315 hx468
              have hF473 := hOl.ext hx468
              have hE474 : Below w17.heap.size w17 w466 := hx468.e hx316 (Nat.le_refl _)
              have hz475 := hE474.le
              have hs476 := hx468.size
              have hl477 := hO469.lo
              have hl478 := hO469.lt
              refine st_q (v := .slice ((some ⟨w313.heap.size, 0, none⟩)) ns.length ns.length) (x_assign rfl) ?_
              refine st_nil ?_
              refine kn463 _ _ ?_
              refine seqK fun Q479 kn480 kr481 ke482 => ?_
              refine seqK fun Q483 kn484 kr485 ke486 => ?_
              refine region ?_
              refine st_q (v := .pointer (some ⟨g, 0, none⟩)) (x_move rfl) ?_
              refine st_q (v := .pointer (some ⟨g, 0, none⟩)) (x_nilCheck rfl) ?_
              refine st_q (v := .pointer (some ⟨g, 0, none⟩)) (x_field (o := 0) T.fa65_0 rfl) ?_
              refine st_q (v := .slice D.na ns.length D.nc) (x_load1 T.na22 rfl ((hN2.blk.keep (hE474.block _ hN2.blk.lt)).one 0 rfl)) ?_
              refine st_q (v := .int .i64 ((ns.length : Nat) : Int)) (x_lenSl rfl Try.underlying22 rfl) ?_
              refine st_q (v := .int .i64 ((0 : Nat) : Int)) (x_move rfl) ?_
              refine st_nil ?_
              refine kn484 _ _ ?_
              refine blockK fun Q487 kn488 kr489 kx490 kb491 => ?_
              refine loopK (α := Nat × (List Rank)) (fun x => [(7, .slice ap ns.length cp), (11, .slice ((some ⟨w38.heap.size, 0, none⟩)) m m), (21, .slice ((some ⟨w313.heap.size, 0, none⟩)) ns.length ns.length), (153, .slice D.na ns.length D.nc), (154, .int .i64 ((ns.length : Nat) : Int)), (155, .int .i64 ((x.1 : Nat) : Int))]) (fun x w492 => Below w17.heap.size w17 w492 ∧ (x.1 ≤ ns.length ∧ x.2.length = ns.length ∧ (∀ j, j < x.1 → el x.2 j = (el ns j, ((el lv (el Pn j) : Nat) : Int))) ∧ OB w492.heap w17.heap.size 45 2 w313.heap.size ns.length (flat enR x.2)) ∧ OB w492.heap w17.heap.size 38 1 w134.heap.size m (flat enV vs) ∧ Fam w492.heap w134.heap.size 3 enN vs (grp (zipI (pF ns es Pn) es.length) m) ∧ OB w492.heap w17.heap.size 3 1 w38.heap.size m (flat enN lv)) (fun x => ns.length - x.1) (0, (List.replicate ns.length ((ByteArray.empty, 0) : Rank))) ⟨rfl, rfl, rfl, rfl, rfl, rfl, trivial⟩ ?_ ?_
              ·
                refine ⟨hE474, ?_⟩
                try dsimp only
                refine ⟨?_, hF471, hF472, hF473⟩
                obtain rfl : p = m := by omega
                exact ⟨Nat.zero_le _, by simp, fun j hj => by omega, hO469⟩
              ·
                rintro τ493 ⟨i, R⟩ w494 ⟨hx498, ⟨⟨hi, hRl, hRj, hOr⟩, hC495, hC496, hC497⟩⟩
                try dsimp only at hi hRl hRj hOr hC495 hC496 hC497
                have hz499 := hx498.le
                intro Q500 kn501 kr502 ke503
                have hl504 := hOr.lo
                have hl505 := hOr.lt
                have hpi : i < ns.length → el Pn i < m := fun h => hK.lt h
                refine seqK fun Q506 kn507 kr508 ke509 => ?_
                refine region ?_
                refine st_q (v := .bool (decide (i < ns.length))) (x_lssN rfl rfl) ?_
                refine st_nil ?_
                refine kn507 _ _ ?_
                refine seqK fun Q510 kn511 kr512 ke513 => ?_
                refine cnd (p := i < ns.length) rfl (fun h514 => ?_) (fun h514 => ?_)
                ·
                  refine skip ?_
                  refine kn511 _ _ ?_
                  refine seqK fun Q515 kn516 kr517 ke518 => ?_
                  refine blockK fun Q519 kn520 kr521 kx522 kb523 => ?_
                  refine seqK fun Q524 kn525 kr526 ke527 => ?_
                  refine region ?_
                  refine st_q (v := .int .i64 ((i : Nat) : Int)) (x_move rfl) ?_
                  obtain ⟨b528, o529, ha530, hc531⟩ := hN2.nodes.src.at (by omega)
                  refine st_q (v := .pointer (some ⟨b528, o529 + i * 1, none⟩)) (x_index' T.sl22 rfl ha530 rfl (by omega)) ?_
                  have hpi2 := hK.lt (u := i) (by omega)
                  refine st_q (v := .string (el ns i)) (x_load1 T.na9 rfl ((hc531.below hx498).elem enS_len (i := i) (by omega))) ?_
                  refine st_q (v := .int .i64 ((i : Nat) : Int)) (x_assign rfl) ?_
                  refine st_q (v := .string (el ns i)) (x_assign rfl) ?_
                  refine st_nil ?_
                  refine kn525 _ _ ?_
                  refine region ?_
                  refine st_q (v := .slice ((some ⟨w313.heap.size, 0, none⟩)) ns.length ns.length) (x_move rfl) ?_
                  refine st_q (v := .int .i64 ((i : Nat) : Int)) (x_move rfl) ?_
                  refine st_q (v := .string (el ns i)) (x_move rfl) ?_
                  refine st_q (v := .slice ((some ⟨w38.heap.size, 0, none⟩)) m m) (x_move rfl) ?_
                  refine st_q (v := .slice ap ns.length cp) (x_move rfl) ?_
                  refine st_q (v := .int .i64 ((i : Nat) : Int)) (x_move rfl) ?_
                  obtain ⟨b532, o533, ha534, hc535⟩ := hPs.at (by omega)
                  refine st_q (v := .pointer (some ⟨b532, o533 + i * 1, none⟩)) (x_index' T.sl38 rfl ha534 rfl (by omega)) ?_
                  refine st_q (v := .int .i64 (((el Pn i) : Nat) : Int)) (x_load1 T.na3 rfl ((hc535.below hx498).elem enN_len (i := i) (by omega))) ?_
                  refine st_q (v := .pointer (some ⟨w38.heap.size, 0 + ((el Pn i)) * 1, none⟩)) (x_index T.sl38 rfl rfl (by omega)) ?_
                  refine st_q (v := .int .i64 (((el lv ((el Pn i))) : Nat) : Int)) (x_load1 T.na3 rfl (hC497.cells.elem enN_len (i := (el Pn i)) (by omega))) ?_
                  refine st_q (v := .agg #[.string (el ns i), .int .i64 (((el lv ((el Pn i))) : Nat) : Int)]) (x_build (fun _ => by kernel_rfl)) ?_
                  refine st_q (v := .pointer (some ⟨w313.heap.size, 0 + i * 2, none⟩)) (x_index T.sl32 rfl rfl (by omega)) ?_
                  refine st_s (e_stO (v := .agg #[.string (el ns i), .int .i64 (((el lv ((el Pn i))) : Nat) : Int)]) (u := (el ns i, (((el lv ((el Pn i))) : Nat) : Int))) enR_len T.sz45 rfl rfl rfl hOr (by first | omega | (rw [List.length_set]; omega)) (by rfl) ?_)
                  intro w536 _ hP537 hB538
                  have hs539 := hP537.size
                  have hF540 := hC495.gk (hP537.grownBy) (hOr.rowk) (by decide)
                  have hF541 := Fam.gk hC496 (hP537.grownBy) (hOr.rowk) (by decide)
                  have hF542 := hC497.gk (hP537.grownBy) (hOr.rowk) (by decide)
                  have hE543 : Below w17.heap.size w17 w536 := hP537.below hx498 (by omega)
                  have hz544 := hE543.le
                  refine st_nil ?_
                  refine kn520 _ _ ?_
                  refine kn516 _ _ ?_
                  refine region ?_
                  refine st_q (v := .int .i64 (((i + 1) : Nat) : Int)) (x_addN rfl rfl (by omega)) ?_
                  refine st_q (v := .int .i64 (((i + 1) : Nat) : Int)) (x_move rfl) ?_
                  refine st_nil ?_
                  refine kn501 _ ((i + 1), (R.set i ((el ns i, (((el lv ((el Pn i))) : Nat) : Int))))) _ ⟨rfl, rfl, rfl, rfl, rfl, rfl, trivial⟩ ⟨hE543, ?_⟩ ?_
                  ·
                    try dsimp only
                    refine ⟨?_, hF540, hF541, hF542⟩
                    refine ⟨by omega, by rw [List.length_set]; exact hRl, fun j hj => ?_, hB538⟩
                    by_cases e : i = j
                    · subst e; rw [el_set_same (by omega)]
                    · rw [el_set_ne e]; exact hRj j (by omega)
                  ·
                    (try dsimp only); omega
                ·
                  refine exit ?_
                  refine ke513 _ _ _ ?_
                  refine ke503 _ _ _ ?_
                  refine kb491 _ _ ?_
                  refine kn480 _ _ ?_
                  refine seqK fun Q545 kn546 kr547 ke548 => ?_
                  refine region ?_
                  refine st_q (v := .slice ((some ⟨w313.heap.size, 0, none⟩)) ns.length ns.length) (x_move rfl) ?_
                  refine st_q (v := .slice ((some ⟨w313.heap.size, 0, none⟩)) ns.length ns.length) (x_assign rfl) ?_
                  refine st_q (v := .int .i64 ((0 : Nat) : Int)) (x_assign rfl) ?_
                  refine st_nil ?_
                  refine kn546 _ _ ?_
                  refine ret ?_
                  refine leave2 (P := Try.prog) (fn := Try.f16) (t := 4) (u := 5) (v := .slice ((some ⟨w313.heap.size, 0, none⟩)) ns.length ns.length) (v' := .int .i64 ((0 : Nat) : Int)) rfl rfl rfl ?_
                  obtain rfl : i = ns.length := by omega
                  have hR := ranks_done hK.sx hRl hRj
                  have hpm : p = m := by omega
                  rw [hpm] at hLv
                  subst hns
                  exact .inr ⟨hK.noloop hno, _, _, rfl, (Below.e hx498 hx20 (Nat.le_refl _)), hLv.done hK, by rw [← hR]; exact (hOr.own (Nat.le_refl _) (by rw [flat_length enR_len, hRl])).weak (by omega)⟩

end Go.Proofs.Ytknfjgbipfpnjaa
