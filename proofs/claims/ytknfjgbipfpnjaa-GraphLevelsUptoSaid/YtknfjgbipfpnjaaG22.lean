import Derived.Test.YtknfjgbipfpnjaaGLv
namespace Go.Proofs.Ytknfjgbipfpnjaa
open Go.RowKit Go.Eng Go.OrdPure
open Go.Knot Go.HeapPure
theorem T.cf9 : CF Try.prog 9 := fun _ _ => by kernel_rfl
theorem T.cf10 : CF Try.prog 10 := fun _ _ => by kernel_rfl
theorem T.cf30 : CF Try.prog 30 := fun _ _ => by kernel_rfl
theorem T.cf28 : CF Try.prog 28 := fun _ _ => by kernel_rfl
theorem T.cf31 : CF Try.prog 31 := fun _ _ => by kernel_rfl
theorem T.cf32 : CF Try.prog 32 := fun _ _ => by kernel_rfl
theorem T.cf33 : CF Try.prog 33 := fun _ _ => by kernel_rfl
theorem T.cf14 : CF Try.prog 14 := fun _ _ => by kernel_rfl
theorem T.cf15 : CF Try.prog 15 := fun _ _ => by kernel_rfl
theorem T.cf24 : CF Try.prog 24 := fun _ _ => by kernel_rfl
theorem T.cf27 : CF Try.prog 27 := fun _ _ => by kernel_rfl
theorem T.cf23 : CF Try.prog 23 := fun _ _ => by kernel_rfl
theorem T.cf25 : CF Try.prog 25 := fun _ _ => by kernel_rfl
theorem T.cf47 : CF Try.prog 47 := fun _ _ => by kernel_rfl

theorem eff_ex {P : Program} {ρ : Operand → Value} {w : World} {op : Op} {ty : TypeId} {v : Value} {K : Value → World → Prop} (h : Ex P ρ w op ty v) (k : K v w) : Eff P ρ w op ty K := ⟨v, w, k, .inl h⟩
theorem ix_inj {ns : List ByteArray} {a b : ByteArray} (ha : a ∈ ns) (hb : b ∈ ns) (h : ixS ns a = ixS ns b) : a = b := by rw [← ixS_el ha, h, ixS_el hb]
set_option maxHeartbeats 4000000 in
theorem reflevels17 (xs : List ByteArray) (es : List Edge) (va vb : Value) (w0 : World) (ha : Src w0.heap va xs.length 1 (flat enS xs)) (hb : Src w0.heap vb es.length 3 (flat enE es)) (hn : xs.length + 2 * es.length ≤ 2097152) (hEx : NegLoop es ∨ ∃ lev, IsLev (nodesL xs es) es lev) : Calls Try.prog 17 #[va, vb] w0 fun e w' => (NegLoop es ∧ e = .returned (.tuple #[.slice none 0 0, .int .i64 15]) ∧ Ext w0 w') ∨ (¬ NegLoop es ∧ ∃ v lev, e = .returned (.tuple #[v, .int .i64 0]) ∧ Ext w0 w' ∧ IsLev (nodesL xs es) es lev ∧ Own w'.heap w0.heap.size 45 2 v (nodesL xs es).length (flat enR (ranksOf (nodesL xs es) lev))) := by
  have hE0 : Below w0.heap.size w0 w0 := Below.refl _ _
  have hz0 := hE0.le
  obtain ⟨a, ca, rfl, hca, hca1⟩ := ha.form
  obtain ⟨b, cb, rfl, hcb, hcb1⟩ := hb.form
  refine enter Try.func17 rfl 87 Try.ntmps17 rfl ?_
  refine seqK fun Q1 kn2 kr3 ke4 => ?_
  refine region ?_
  refine st_q (v := .slice none 0 0) (x_assign rfl) ?_
  refine st_q (v := .int .i64 ((0 : Nat) : Int)) (x_assign rfl) ?_
  refine st_nil ?_
  refine kn2 _ _ ?_
  refine seqK fun Q5 kn6 kr7 ke8 => ?_
  refine region ?_
  refine st_q (v := .slice a xs.length ca) (x_move rfl) ?_
  refine st_q (v := .slice b es.length cb) (x_move rfl) ?_
  refine st_c (t_call [.slice a xs.length ca, .slice b es.length cb] T.cf31 rfl rfl) (refnodes31 xs es _ _ _ (ha.below hE0) (hb.below hE0) (by omega)) ?_
  rintro _ w9 ⟨v11, rfl, hx10, hO12⟩
  refine ⟨_, rfl, ?_⟩
  have hE13 : Below w0.heap.size w0 w9 := hx10.e hE0 (Nat.le_refl _)
  have hz14 := hE13.le
  have hs15 := hx10.size
  obtain ⟨an, cn, rfl, _, _⟩ := hO12.src.form
  have hnl := nodesL_len xs es
  have hends : ∀ k, k < es.length → (el es k).1 ∈ (nodesL xs es) ∧ (el es k).2.1 ∈ (nodesL xs es) := fun k hk => ⟨nodesL_mem.2 (.inr ⟨_, el_memE hk, .inl rfl⟩), nodesL_mem.2 (.inr ⟨_, el_memE hk, .inr rfl⟩)⟩
  refine st_q (v := .slice an ((nodesL xs es).length) cn) (x_assign rfl) ?_
  refine st_nil ?_
  refine kn6 _ _ ?_
  refine seqK fun Q16 kn17 kr18 ke19 => ?_
  refine region ?_
  refine st_q (v := .slice an ((nodesL xs es).length) cn) (x_move rfl) ?_
  refine st_q (v := .int .i64 (((nodesL xs es).length : Nat) : Int)) (x_lenSl rfl Try.underlying22 rfl) ?_
  refine st_e (e_makeSlice T.sl38 rfl rfl (by omega) (by omega) ?_)
  intro w20 hA21
  have hx22 := hA21.ext
  have hs24 := hA21.size
  have hA21x : Al w9 w20 (.cells (flat enN (List.replicate (nodesL xs es).length (0 : Nat))).toArray 3) := by rw [flat_repN]; exact hA21
  have hO23 := OB.new (lo := w0.heap.size) (k := 1) (c := (nodesL xs es).length) hA21x (by omega) (by rw [flat_length enN_len]; simp) (by omega)
  have hF25 := hO12.ext hx22
  have hE26 : Below w0.heap.size w0 w20 := hx22.e hE13 (Nat.le_refl _)
  have hz27 := hE26.le
  have hs28 := hx22.size
  have hl29 := hO23.lo
  have hl30 := hO23.lt
  refine st_q (v := .slice ((some ⟨w9.heap.size, 0, none⟩)) ((nodesL xs es).length) ((nodesL xs es).length)) (x_assign rfl) ?_
  refine st_nil ?_
  refine kn17 _ _ ?_
  refine seqK fun Q31 kn32 kr33 ke34 => ?_
  refine region ?_
  refine st_q (v := .bool true) (x_assign rfl) ?_
  refine st_nil ?_
  refine kn32 _ _ ?_
  refine seqK fun Q35 kn36 kr37 ke38 => ?_
  refine blockK fun Q39 kn40 kr41 kx42 kb43 => ?_
  refine loopK (α := Bool × (List Nat)) (fun x => [(1, .slice b es.length cb), (6, .slice an ((nodesL xs es).length) cn), (7, .slice ((some ⟨w9.heap.size, 0, none⟩)) ((nodesL xs es).length) ((nodesL xs es).length)), (8, .bool x.1)]) (fun x w44 => Below w0.heap.size w0 w44 ∧ (Rz (nodesL xs es) es x.2 ∧ (x.1 = false → ∀ k, k < es.length → RuleK (nodesL xs es) es x.2 k) ∧ OB w44.heap w0.heap.size 3 1 w9.heap.size (nodesL xs es).length (flat enN x.2)) ∧ Own w44.heap w0.heap.size 9 1 (.slice an (nodesL xs es).length cn) (nodesL xs es).length (flat enS (nodesL xs es))) (fun x => rzm (nodesL xs es).length x.1 x.2) (true, (List.replicate (nodesL xs es).length 0)) ⟨rfl, rfl, rfl, rfl, trivial⟩ ?_ ?_
  ·
    refine ⟨hE26, ?_⟩
    try dsimp only
    refine ⟨?_, hF25⟩
    exact ⟨Rz.start _ _, fun h => (by cases h), hO23⟩
  ·
    rintro τ45 ⟨rs, lv⟩ w46 ⟨hx48, ⟨⟨hZ, hQ, hOl⟩, hC47⟩⟩
    try dsimp only at hZ hQ hOl hC47
    have hz49 := hx48.le
    intro Q50 kn51 kr52 ke53
    have hl54 := hOl.lo
    have hl55 := hOl.lt
    have hlvl := hZ.len
    refine seqK fun Q56 kn57 kr58 ke59 => ?_
    refine seqK fun Q60 kn61 kr62 ke63 => ?_
    refine region ?_
    refine st_q (v := .bool rs) (x_move rfl) ?_
    refine st_nil ?_
    refine kn61 _ _ ?_
    refine cndB (b := rs) rfl (fun h64 => ?_) (fun h64 => ?_)
    ·
      refine skip ?_
      refine kn57 _ _ ?_
      refine blockK fun Q65 kn66 kr67 kx68 kb69 => ?_
      refine seqK fun Q70 kn71 kr72 ke73 => ?_
      refine region ?_
      refine st_q (v := .bool false) (x_assign rfl) ?_
      refine st_nil ?_
      refine kn71 _ _ ?_
      refine seqK fun Q74 kn75 kr76 ke77 => ?_
      refine region ?_
      refine st_q (v := .int .i64 ((0 : Nat) : Int)) (x_assign rfl) ?_
      refine st_nil ?_
      refine kn75 _ _ ?_
      refine blockK fun Q78 kn79 kr80 kx81 kb82 => ?_
      refine loopK (α := Nat × Bool × (List Nat)) (fun x => [(1, .slice b es.length cb), (6, .slice an ((nodesL xs es).length) cn), (7, .slice ((some ⟨w9.heap.size, 0, none⟩)) ((nodesL xs es).length) ((nodesL xs es).length)), (8, .bool x.2.1), (9, .int .i64 ((x.1 : Nat) : Int))]) (fun x w83 => Below w0.heap.size w0 w83 ∧ (x.1 ≤ es.length ∧ Ri (nodesL xs es) es lv x.2.2 x.1 x.2.1 ∧ OB w83.heap w0.heap.size 3 1 w9.heap.size (nodesL xs es).length (flat enN x.2.2)) ∧ Own w83.heap w0.heap.size 9 1 (.slice an (nodesL xs es).length cn) (nodesL xs es).length (flat enS (nodesL xs es))) (fun x => es.length - x.1) (0, false, lv) ⟨rfl, rfl, rfl, rfl, rfl, trivial⟩ ?_ ?_
      ·
        refine ⟨hx48, ?_⟩
        try dsimp only
        refine ⟨?_, hC47⟩
        exact ⟨Nat.zero_le _, Ri.start hZ, hOl⟩
      ·
        rintro τ84 ⟨i, rs2, lv2⟩ w85 ⟨hx87, ⟨⟨hi, hR, hOl2⟩, hC86⟩⟩
        try dsimp only at hi hR hOl2 hC86
        have hz88 := hx87.le
        intro Q89 kn90 kr91 ke92
        have hl93 := hOl2.lo
        have hl94 := hOl2.lt
        have hlvl2 := hR.z.len
        refine seqK fun Q95 kn96 kr97 ke98 => ?_
        refine seqK fun Q99 kn100 kr101 ke102 => ?_
        refine region ?_
        refine st_q (v := .int .i64 ((i : Nat) : Int)) (x_move rfl) ?_
        refine st_q (v := .slice b es.length cb) (x_move rfl) ?_
        refine st_q (v := .int .i64 ((es.length : Nat) : Int)) (x_lenSl rfl Try.underlying23 rfl) ?_
        refine st_q (v := .bool (decide (i < es.length))) (x_lssN rfl rfl) ?_
        refine st_nil ?_
        refine kn100 _ _ ?_
        refine cnd (p := i < es.length) rfl (fun h103 => ?_) (fun h103 => ?_)
        ·
          refine skip ?_
          refine kn96 _ _ ?_
          refine seqK fun Q104 kn105 kr106 ke107 => ?_
          refine blockK fun Q108 kn109 kr110 kx111 kb112 => ?_
          refine seqK fun Q113 kn114 kr115 ke116 => ?_
          refine region ?_
          have hm1 := (hends i (by omega)).1
          have hm2 := (hends i (by omega)).2
          have hi1 := ixS_lt hm1
          have hi2 := ixS_lt hm2
          have hbA := hR.z.bnd _ hi1
          have hbT := hR.z.bnd _ hi2
          refine st_q (v := .slice an ((nodesL xs es).length) cn) (x_move rfl) ?_
          refine st_q (v := .slice b es.length cb) (x_move rfl) ?_
          refine st_q (v := .int .i64 ((i : Nat) : Int)) (x_move rfl) ?_
          obtain ⟨b117, o118, ha119, hc120⟩ := hb.at (by omega)
          refine st_q (v := .pointer (some ⟨b117, o118 + i * 3, none⟩)) (x_index' T.sl23 rfl ha119 rfl (by omega)) ?_
          refine st_q (v := .pointer (some ⟨b117, o118 + i * 3, none⟩)) (x_field (o := o118 + i * 3) T.fa47_0 rfl) ?_
          refine st_q (v := .string ((el es i).1)) (x_load1 T.na9 rfl (((hc120.below hx87).elem enE_len (i := i) (by omega)).fld 0 rfl)) ?_
          refine st_c (t_call [.slice an ((nodesL xs es).length) cn, .string ((el es i).1)] T.cf44 rfl rfl) (place44 (nodesL xs es) (el es i).1 _ _ hC86.src) ?_
          rintro _ w121 ⟨e123, hx122⟩
          rw [pl_ix hm1] at e123
          subst e123
          refine ⟨_, rfl, ?_⟩
          have hF124 := hC86.ext hx122
          have hF125 := hOl2.ext hx122
          have hE126 : Below w0.heap.size w0 w121 := hx122.e hx87 (Nat.le_refl _)
          have hz127 := hE126.le
          have hs128 := hx122.size
          refine st_q (v := .int .i64 (((ixS (nodesL xs es) (el es i).1) : Nat) : Int)) (x_assign rfl) ?_
          refine st_nil ?_
          refine kn114 _ _ ?_
          refine seqK fun Q129 kn130 kr131 ke132 => ?_
          refine region ?_
          refine st_q (v := .slice ((some ⟨w9.heap.size, 0, none⟩)) ((nodesL xs es).length) ((nodesL xs es).length)) (x_move rfl) ?_
          refine st_q (v := .slice an ((nodesL xs es).length) cn) (x_move rfl) ?_
          refine st_q (v := .slice b es.length cb) (x_move rfl) ?_
          refine st_q (v := .int .i64 ((i : Nat) : Int)) (x_move rfl) ?_
          refine st_q (v := .pointer (some ⟨b117, o118 + i * 3, none⟩)) (x_index' T.sl23 rfl ha119 rfl (by omega)) ?_
          refine st_q (v := .pointer (some ⟨b117, o118 + i * 3 + 1, none⟩)) (x_field (o := o118 + i * 3) T.fa47_1 rfl) ?_
          refine st_q (v := .string ((el es i).2.1)) (x_load1 T.na9 rfl (((hc120.below hE126).elem enE_len (i := i) (by omega)).fld 1 rfl)) ?_
          refine st_c (t_call [.slice an ((nodesL xs es).length) cn, .string ((el es i).2.1)] T.cf44 rfl rfl) (place44 (nodesL xs es) (el es i).2.1 _ _ hF124.src) ?_
          rintro _ w133 ⟨e135, hx134⟩
          rw [pl_ix hm2] at e135
          subst e135
          refine ⟨_, rfl, ?_⟩
          have hF136 := hF124.ext hx134
          have hF137 := hF125.ext hx134
          have hE138 : Below w0.heap.size w0 w133 := hx134.e hE126 (Nat.le_refl _)
          have hz139 := hE138.le
          have hs140 := hx134.size
          refine st_q (v := .pointer (some ⟨w9.heap.size, 0 + ((ixS (nodesL xs es) (el es i).2.1)) * 1, none⟩)) (x_index T.sl38 rfl rfl (by omega)) ?_
          refine st_q (v := .int .i64 (((el lv2 ((ixS (nodesL xs es) (el es i).2.1))) : Nat) : Int)) (x_load1 T.na3 rfl (hF137.cells.elem enN_len (i := (ixS (nodesL xs es) (el es i).2.1)) (by first | omega | (rw [List.length_set]; omega)))) ?_
          refine st_q (v := .int .i64 (((el lv2 ((ixS (nodesL xs es) (el es i).2.1))) : Nat) : Int)) (x_assign rfl) ?_
          refine st_nil ?_
          refine kn130 _ _ ?_
          refine seqK fun Q141 kn142 kr143 ke144 => ?_
          refine seqK fun Q145 kn146 kr147 ke148 => ?_
          refine region ?_
          refine st_q (v := .slice b es.length cb) (x_move rfl) ?_
          refine st_q (v := .int .i64 ((i : Nat) : Int)) (x_move rfl) ?_
          refine st_q (v := .pointer (some ⟨b117, o118 + i * 3, none⟩)) (x_index' T.sl23 rfl ha119 rfl (by omega)) ?_
          refine st_q (v := .pointer (some ⟨b117, o118 + i * 3 + 2, none⟩)) (x_field (o := o118 + i * 3) T.fa47_2 rfl) ?_
          refine st_q (v := .bool ((el es i).2.2)) (x_load1 T.na4 rfl (((hc120.below hE138).elem enE_len (i := i) (by omega)).fld 2 rfl)) ?_
          refine st_nil ?_
          refine kn146 _ _ ?_
          refine cndB (b := (el es i).2.2) rfl (fun h149 => ?_) (fun h149 => ?_)
          ·
            refine region ?_
            refine st_q (v := .int .i64 (((el lv2 ((ixS (nodesL xs es) (el es i).2.1))) : Nat) : Int)) (x_move rfl) ?_
            refine st_q (v := .int .i64 ((((el lv2 ((ixS (nodesL xs es) (el es i).2.1))) + 1) : Nat) : Int)) (x_addN rfl rfl (by omega)) ?_
            refine st_q (v := .int .i64 ((((el lv2 ((ixS (nodesL xs es) (el es i).2.1))) + 1) : Nat) : Int)) (x_assign rfl) ?_
            refine st_nil ?_
            refine kn142 _ _ ?_
            refine seqK fun Q150 kn151 kr152 ke153 => ?_
            refine seqK fun Q154 kn155 kr156 ke157 => ?_
            refine region ?_
            have hm : ((el lv2 ((ixS (nodesL xs es) (el es i).2.1))) + 1) = el lv2 (tgt (nodesL xs es) es i) + ng (el es i) := by unfold ng; rw [if_pos (by assumption)]; rfl
            refine st_q (v := .slice ((some ⟨w9.heap.size, 0, none⟩)) ((nodesL xs es).length) ((nodesL xs es).length)) (x_move rfl) ?_
            refine st_q (v := .int .i64 (((ixS (nodesL xs es) (el es i).1) : Nat) : Int)) (x_move rfl) ?_
            refine st_q (v := .pointer (some ⟨w9.heap.size, 0 + ((ixS (nodesL xs es) (el es i).1)) * 1, none⟩)) (x_index T.sl38 rfl rfl (by omega)) ?_
            refine st_q (v := .int .i64 (((el lv2 ((ixS (nodesL xs es) (el es i).1))) : Nat) : Int)) (x_load1 T.na3 rfl (hF137.cells.elem enN_len (i := (ixS (nodesL xs es) (el es i).1)) (by first | omega | (rw [List.length_set]; omega)))) ?_
            refine st_q (v := .int .i64 ((((el lv2 ((ixS (nodesL xs es) (el es i).2.1))) + 1) : Nat) : Int)) (x_move rfl) ?_
            refine st_q (v := .bool (decide (((el lv2 ((ixS (nodesL xs es) (el es i).1)))) < (((el lv2 ((ixS (nodesL xs es) (el es i).2.1))) + 1))))) (x_lssN rfl rfl) ?_
            refine st_nil ?_
            refine kn155 _ _ ?_
            refine cnd (p := ((el lv2 ((ixS (nodesL xs es) (el es i).1)))) < (((el lv2 ((ixS (nodesL xs es) (el es i).2.1))) + 1))) rfl (fun h158 => ?_) (fun h158 => ?_)
            ·
              refine seqK fun Q159 kn160 kr161 ke162 => ?_
              refine region ?_
              refine st_q (v := .slice ((some ⟨w9.heap.size, 0, none⟩)) ((nodesL xs es).length) ((nodesL xs es).length)) (x_move rfl) ?_
              refine st_q (v := .int .i64 (((ixS (nodesL xs es) (el es i).1) : Nat) : Int)) (x_move rfl) ?_
              refine st_q (v := .int .i64 ((((el lv2 ((ixS (nodesL xs es) (el es i).2.1))) + 1) : Nat) : Int)) (x_move rfl) ?_
              refine st_q (v := .pointer (some ⟨w9.heap.size, 0 + ((ixS (nodesL xs es) (el es i).1)) * 1, none⟩)) (x_index T.sl38 rfl rfl (by omega)) ?_
              refine st_s (e_stO (v := .int .i64 ((((el lv2 ((ixS (nodesL xs es) (el es i).2.1))) + 1) : Nat) : Int)) (u := ((el lv2 ((ixS (nodesL xs es) (el es i).2.1))) + 1)) enN_len T.sz3 rfl rfl rfl hF137 (by first | omega | (rw [List.length_set]; omega)) (by rfl) ?_)
              intro w163 _ hP164 hB165
              have hs166 := hP164.size
              have hF167 := hF136.gk (hP164.grownBy) (hF137.rowk) (by decide)
              have hE168 : Below w0.heap.size w0 w163 := hP164.below hE138 (by omega)
              have hz169 := hE168.le
              refine st_nil ?_
              refine kn160 _ _ ?_
              refine region ?_
              refine st_q (v := .bool true) (x_assign rfl) ?_
              refine st_nil ?_
              refine kn151 _ _ ?_
              refine seqK fun Q170 kn171 kr172 ke173 => ?_
              refine region ?_
              have hes : el (lv2.set ((ixS (nodesL xs es) (el es i).1)) (((el lv2 ((ixS (nodesL xs es) (el es i).2.1))) + 1))) (ixS (nodesL xs es) (el es i).1) = ((el lv2 ((ixS (nodesL xs es) (el es i).2.1))) + 1) := el_set_same (by omega) _
              refine st_q (v := .slice ((some ⟨w9.heap.size, 0, none⟩)) ((nodesL xs es).length) ((nodesL xs es).length)) (x_move rfl) ?_
              refine st_q (v := .int .i64 (((ixS (nodesL xs es) (el es i).1) : Nat) : Int)) (x_move rfl) ?_
              refine st_q (v := .pointer (some ⟨w9.heap.size, 0 + ((ixS (nodesL xs es) (el es i).1)) * 1, none⟩)) (x_index T.sl38 rfl rfl (by omega)) ?_
              refine st_q (v := .int .i64 (((el (lv2.set ((ixS (nodesL xs es) (el es i).1)) (((el lv2 ((ixS (nodesL xs es) (el es i).2.1))) + 1))) ((ixS (nodesL xs es) (el es i).1))) : Nat) : Int)) (x_load1 T.na3 rfl (hB165.cells.elem enN_len (i := (ixS (nodesL xs es) (el es i).1)) (by first | omega | (rw [List.length_set]; omega)))) ?_
              refine st_q (v := .slice an ((nodesL xs es).length) cn) (x_move rfl) ?_
              refine st_q (v := .int .i64 (((nodesL xs es).length : Nat) : Int)) (x_lenSl rfl Try.underlying22 rfl) ?_
              refine st_q (v := .bool (decide (((nodesL xs es).length) < ((el (lv2.set ((ixS (nodesL xs es) (el es i).1)) (((el lv2 ((ixS (nodesL xs es) (el es i).2.1))) + 1))) ((ixS (nodesL xs es) (el es i).1))))))) (x_gtrN rfl rfl) ?_
              refine st_nil ?_
              refine kn171 _ _ ?_
              refine cnd (p := ((nodesL xs es).length) < ((el (lv2.set ((ixS (nodesL xs es) (el es i).1)) (((el lv2 ((ixS (nodesL xs es) (el es i).2.1))) + 1))) ((ixS (nodesL xs es) (el es i).1))))) rfl (fun h174 => ?_) (fun h174 => ?_)
              ·
                refine seqK fun Q175 kn176 kr177 ke178 => ?_
                refine region ?_
                refine st_q (v := .slice none 0 0) (x_assign rfl) ?_
                refine st_q (v := .int .i64 ((15 : Nat) : Int)) (x_assign rfl) ?_
                refine st_nil ?_
                refine kn176 _ _ ?_
                refine ret ?_
                refine kr110 _ _ ?_
                refine kr106 _ _ ?_
                refine kr91 _ _ ?_
                refine kr80 _ _ ?_
                refine kr67 _ _ ?_
                refine kr52 _ _ ?_
                refine kr41 _ _ ?_
                refine kr37 _ _ ?_
                refine leave2 (P := Try.prog) (fn := Try.f17) (t := 4) (u := 5) (v := .slice none 0 0) (v' := .int .i64 ((15 : Nat) : Int)) rfl rfl rfl ?_
                exact .inl ⟨hR.z.over hends hEx (by omega) hm (by omega), rfl, hE168⟩
              ·
                refine skip ?_
                refine kn109 _ _ ?_
                refine kn105 _ _ ?_
                refine region ?_
                refine st_q (v := .int .i64 ((i : Nat) : Int)) (x_move rfl) ?_
                refine st_q (v := .int .i64 (((i + 1) : Nat) : Int)) (x_addN rfl rfl (by omega)) ?_
                refine st_q (v := .int .i64 (((i + 1) : Nat) : Int)) (x_assign rfl) ?_
                refine st_nil ?_
                refine kn90 _ ((i + 1), true, (lv2.set ((ixS (nodesL xs es) (el es i).1)) (((el lv2 ((ixS (nodesL xs es) (el es i).2.1))) + 1)))) _ ⟨rfl, rfl, rfl, rfl, rfl, trivial⟩ ⟨hE168, ?_⟩ ?_
                ·
                  try dsimp only
                  refine ⟨?_, hF167⟩
                  exact ⟨by omega, hR.up hends (by omega) hm (by assumption) (by omega), hB165⟩
                ·
                  (try dsimp only); omega
            ·
              refine skip ?_
              refine kn151 _ _ ?_
              refine seqK fun Q179 kn180 kr181 ke182 => ?_
              refine region ?_
              refine st_q (v := .slice ((some ⟨w9.heap.size, 0, none⟩)) ((nodesL xs es).length) ((nodesL xs es).length)) (x_move rfl) ?_
              refine st_q (v := .int .i64 (((ixS (nodesL xs es) (el es i).1) : Nat) : Int)) (x_move rfl) ?_
              refine st_q (v := .pointer (some ⟨w9.heap.size, 0 + ((ixS (nodesL xs es) (el es i).1)) * 1, none⟩)) (x_index T.sl38 rfl rfl (by omega)) ?_
              refine st_q (v := .int .i64 (((el lv2 ((ixS (nodesL xs es) (el es i).1))) : Nat) : Int)) (x_load1 T.na3 rfl (hF137.cells.elem enN_len (i := (ixS (nodesL xs es) (el es i).1)) (by first | omega | (rw [List.length_set]; omega)))) ?_
              refine st_q (v := .slice an ((nodesL xs es).length) cn) (x_move rfl) ?_
              refine st_q (v := .int .i64 (((nodesL xs es).length : Nat) : Int)) (x_lenSl rfl Try.underlying22 rfl) ?_
              refine st_q (v := .bool (decide (((nodesL xs es).length) < ((el lv2 ((ixS (nodesL xs es) (el es i).1))))))) (x_gtrN rfl rfl) ?_
              refine st_nil ?_
              refine kn180 _ _ ?_
              refine cnd (p := ((nodesL xs es).length) < ((el lv2 ((ixS (nodesL xs es) (el es i).1))))) rfl (fun h183 => ?_) (fun h183 => ?_)
              ·
                refine seqK fun Q184 kn185 kr186 ke187 => ?_
                refine region ?_
                refine st_q (v := .slice none 0 0) (x_assign rfl) ?_
                refine st_q (v := .int .i64 ((15 : Nat) : Int)) (x_assign rfl) ?_
                refine st_nil ?_
                refine kn185 _ _ ?_
                refine ret ?_
                refine kr110 _ _ ?_
                refine kr106 _ _ ?_
                refine kr91 _ _ ?_
                refine kr80 _ _ ?_
                refine kr67 _ _ ?_
                refine kr52 _ _ ?_
                refine kr41 _ _ ?_
                refine kr37 _ _ ?_
                refine leave2 (P := Try.prog) (fn := Try.f17) (t := 4) (u := 5) (v := .slice none 0 0) (v' := .int .i64 ((15 : Nat) : Int)) rfl rfl rfl ?_
                exact .inl ⟨hR.z.over hends hEx (by omega) hm (by omega), rfl, hE138⟩
              ·
                refine skip ?_
                refine kn109 _ _ ?_
                refine kn105 _ _ ?_
                refine region ?_
                refine st_q (v := .int .i64 ((i : Nat) : Int)) (x_move rfl) ?_
                refine st_q (v := .int .i64 (((i + 1) : Nat) : Int)) (x_addN rfl rfl (by omega)) ?_
                refine st_q (v := .int .i64 (((i + 1) : Nat) : Int)) (x_assign rfl) ?_
                refine st_nil ?_
                refine kn90 _ ((i + 1), rs2, lv2) _ ⟨rfl, rfl, rfl, rfl, rfl, trivial⟩ ⟨hE138, ?_⟩ ?_
                ·
                  try dsimp only
                  refine ⟨?_, hF136⟩
                  exact ⟨by omega, hR.no hm (by assumption), hF137⟩
                ·
                  (try dsimp only); omega
          ·
            refine skip ?_
            refine kn142 _ _ ?_
            refine seqK fun Q188 kn189 kr190 ke191 => ?_
            refine seqK fun Q192 kn193 kr194 ke195 => ?_
            refine region ?_
            have hm : (el lv2 ((ixS (nodesL xs es) (el es i).2.1))) = el lv2 (tgt (nodesL xs es) es i) + ng (el es i) := by unfold ng; rw [if_neg (by simpa using (by assumption : _ = false))]; rfl
            refine st_q (v := .slice ((some ⟨w9.heap.size, 0, none⟩)) ((nodesL xs es).length) ((nodesL xs es).length)) (x_move rfl) ?_
            refine st_q (v := .int .i64 (((ixS (nodesL xs es) (el es i).1) : Nat) : Int)) (x_move rfl) ?_
            refine st_q (v := .pointer (some ⟨w9.heap.size, 0 + ((ixS (nodesL xs es) (el es i).1)) * 1, none⟩)) (x_index T.sl38 rfl rfl (by omega)) ?_
            refine st_q (v := .int .i64 (((el lv2 ((ixS (nodesL xs es) (el es i).1))) : Nat) : Int)) (x_load1 T.na3 rfl (hF137.cells.elem enN_len (i := (ixS (nodesL xs es) (el es i).1)) (by first | omega | (rw [List.length_set]; omega)))) ?_
            refine st_q (v := .int .i64 (((el lv2 ((ixS (nodesL xs es) (el es i).2.1))) : Nat) : Int)) (x_move rfl) ?_
            refine st_q (v := .bool (decide (((el lv2 ((ixS (nodesL xs es) (el es i).1)))) < ((el lv2 ((ixS (nodesL xs es) (el es i).2.1))))))) (x_lssN rfl rfl) ?_
            refine st_nil ?_
            refine kn193 _ _ ?_
            refine cnd (p := ((el lv2 ((ixS (nodesL xs es) (el es i).1)))) < ((el lv2 ((ixS (nodesL xs es) (el es i).2.1))))) rfl (fun h196 => ?_) (fun h196 => ?_)
            ·
              refine seqK fun Q197 kn198 kr199 ke200 => ?_
              refine region ?_
              refine st_q (v := .slice ((some ⟨w9.heap.size, 0, none⟩)) ((nodesL xs es).length) ((nodesL xs es).length)) (x_move rfl) ?_
              refine st_q (v := .int .i64 (((ixS (nodesL xs es) (el es i).1) : Nat) : Int)) (x_move rfl) ?_
              refine st_q (v := .int .i64 (((el lv2 ((ixS (nodesL xs es) (el es i).2.1))) : Nat) : Int)) (x_move rfl) ?_
              refine st_q (v := .pointer (some ⟨w9.heap.size, 0 + ((ixS (nodesL xs es) (el es i).1)) * 1, none⟩)) (x_index T.sl38 rfl rfl (by omega)) ?_
              refine st_s (e_stO (v := .int .i64 (((el lv2 ((ixS (nodesL xs es) (el es i).2.1))) : Nat) : Int)) (u := (el lv2 ((ixS (nodesL xs es) (el es i).2.1)))) enN_len T.sz3 rfl rfl rfl hF137 (by first | omega | (rw [List.length_set]; omega)) (by rfl) ?_)
              intro w201 _ hP202 hB203
              have hs204 := hP202.size
              have hF205 := hF136.gk (hP202.grownBy) (hF137.rowk) (by decide)
              have hE206 : Below w0.heap.size w0 w201 := hP202.below hE138 (by omega)
              have hz207 := hE206.le
              refine st_nil ?_
              refine kn198 _ _ ?_
              refine region ?_
              refine st_q (v := .bool true) (x_assign rfl) ?_
              refine st_nil ?_
              refine kn189 _ _ ?_
              refine seqK fun Q208 kn209 kr210 ke211 => ?_
              refine region ?_
              have hes : el (lv2.set ((ixS (nodesL xs es) (el es i).1)) ((el lv2 ((ixS (nodesL xs es) (el es i).2.1))))) (ixS (nodesL xs es) (el es i).1) = (el lv2 ((ixS (nodesL xs es) (el es i).2.1))) := el_set_same (by omega) _
              refine st_q (v := .slice ((some ⟨w9.heap.size, 0, none⟩)) ((nodesL xs es).length) ((nodesL xs es).length)) (x_move rfl) ?_
              refine st_q (v := .int .i64 (((ixS (nodesL xs es) (el es i).1) : Nat) : Int)) (x_move rfl) ?_
              refine st_q (v := .pointer (some ⟨w9.heap.size, 0 + ((ixS (nodesL xs es) (el es i).1)) * 1, none⟩)) (x_index T.sl38 rfl rfl (by omega)) ?_
              refine st_q (v := .int .i64 (((el (lv2.set ((ixS (nodesL xs es) (el es i).1)) ((el lv2 ((ixS (nodesL xs es) (el es i).2.1))))) ((ixS (nodesL xs es) (el es i).1))) : Nat) : Int)) (x_load1 T.na3 rfl (hB203.cells.elem enN_len (i := (ixS (nodesL xs es) (el es i).1)) (by first | omega | (rw [List.length_set]; omega)))) ?_
              refine st_q (v := .slice an ((nodesL xs es).length) cn) (x_move rfl) ?_
              refine st_q (v := .int .i64 (((nodesL xs es).length : Nat) : Int)) (x_lenSl rfl Try.underlying22 rfl) ?_
              refine st_q (v := .bool (decide (((nodesL xs es).length) < ((el (lv2.set ((ixS (nodesL xs es) (el es i).1)) ((el lv2 ((ixS (nodesL xs es) (el es i).2.1))))) ((ixS (nodesL xs es) (el es i).1))))))) (x_gtrN rfl rfl) ?_
              refine st_nil ?_
              refine kn209 _ _ ?_
              refine cnd (p := ((nodesL xs es).length) < ((el (lv2.set ((ixS (nodesL xs es) (el es i).1)) ((el lv2 ((ixS (nodesL xs es) (el es i).2.1))))) ((ixS (nodesL xs es) (el es i).1))))) rfl (fun h212 => ?_) (fun h212 => ?_)
              ·
                refine seqK fun Q213 kn214 kr215 ke216 => ?_
                refine region ?_
                refine st_q (v := .slice none 0 0) (x_assign rfl) ?_
                refine st_q (v := .int .i64 ((15 : Nat) : Int)) (x_assign rfl) ?_
                refine st_nil ?_
                refine kn214 _ _ ?_
                refine ret ?_
                refine kr110 _ _ ?_
                refine kr106 _ _ ?_
                refine kr91 _ _ ?_
                refine kr80 _ _ ?_
                refine kr67 _ _ ?_
                refine kr52 _ _ ?_
                refine kr41 _ _ ?_
                refine kr37 _ _ ?_
                refine leave2 (P := Try.prog) (fn := Try.f17) (t := 4) (u := 5) (v := .slice none 0 0) (v' := .int .i64 ((15 : Nat) : Int)) rfl rfl rfl ?_
                exact .inl ⟨hR.z.over hends hEx (by omega) hm (by omega), rfl, hE206⟩
              ·
                refine skip ?_
                refine kn109 _ _ ?_
                refine kn105 _ _ ?_
                refine region ?_
                refine st_q (v := .int .i64 ((i : Nat) : Int)) (x_move rfl) ?_
                refine st_q (v := .int .i64 (((i + 1) : Nat) : Int)) (x_addN rfl rfl (by omega)) ?_
                refine st_q (v := .int .i64 (((i + 1) : Nat) : Int)) (x_assign rfl) ?_
                refine st_nil ?_
                refine kn90 _ ((i + 1), true, (lv2.set ((ixS (nodesL xs es) (el es i).1)) ((el lv2 ((ixS (nodesL xs es) (el es i).2.1)))))) _ ⟨rfl, rfl, rfl, rfl, rfl, trivial⟩ ⟨hE206, ?_⟩ ?_
                ·
                  try dsimp only
                  refine ⟨?_, hF205⟩
                  exact ⟨by omega, hR.up hends (by omega) hm (by assumption) (by omega), hB203⟩
                ·
                  (try dsimp only); omega
            ·
              refine skip ?_
              refine kn189 _ _ ?_
              refine seqK fun Q217 kn218 kr219 ke220 => ?_
              refine region ?_
              refine st_q (v := .slice ((some ⟨w9.heap.size, 0, none⟩)) ((nodesL xs es).length) ((nodesL xs es).length)) (x_move rfl) ?_
              refine st_q (v := .int .i64 (((ixS (nodesL xs es) (el es i).1) : Nat) : Int)) (x_move rfl) ?_
              refine st_q (v := .pointer (some ⟨w9.heap.size, 0 + ((ixS (nodesL xs es) (el es i).1)) * 1, none⟩)) (x_index T.sl38 rfl rfl (by omega)) ?_
              refine st_q (v := .int .i64 (((el lv2 ((ixS (nodesL xs es) (el es i).1))) : Nat) : Int)) (x_load1 T.na3 rfl (hF137.cells.elem enN_len (i := (ixS (nodesL xs es) (el es i).1)) (by first | omega | (rw [List.length_set]; omega)))) ?_
              refine st_q (v := .slice an ((nodesL xs es).length) cn) (x_move rfl) ?_
              refine st_q (v := .int .i64 (((nodesL xs es).length : Nat) : Int)) (x_lenSl rfl Try.underlying22 rfl) ?_
              refine st_q (v := .bool (decide (((nodesL xs es).length) < ((el lv2 ((ixS (nodesL xs es) (el es i).1))))))) (x_gtrN rfl rfl) ?_
              refine st_nil ?_
              refine kn218 _ _ ?_
              refine cnd (p := ((nodesL xs es).length) < ((el lv2 ((ixS (nodesL xs es) (el es i).1))))) rfl (fun h221 => ?_) (fun h221 => ?_)
              ·
                refine seqK fun Q222 kn223 kr224 ke225 => ?_
                refine region ?_
                refine st_q (v := .slice none 0 0) (x_assign rfl) ?_
                refine st_q (v := .int .i64 ((15 : Nat) : Int)) (x_assign rfl) ?_
                refine st_nil ?_
                refine kn223 _ _ ?_
                refine ret ?_
                refine kr110 _ _ ?_
                refine kr106 _ _ ?_
                refine kr91 _ _ ?_
                refine kr80 _ _ ?_
                refine kr67 _ _ ?_
                refine kr52 _ _ ?_
                refine kr41 _ _ ?_
                refine kr37 _ _ ?_
                refine leave2 (P := Try.prog) (fn := Try.f17) (t := 4) (u := 5) (v := .slice none 0 0) (v' := .int .i64 ((15 : Nat) : Int)) rfl rfl rfl ?_
                exact .inl ⟨hR.z.over hends hEx (by omega) hm (by omega), rfl, hE138⟩
              ·
                refine skip ?_
                refine kn109 _ _ ?_
                refine kn105 _ _ ?_
                refine region ?_
                refine st_q (v := .int .i64 ((i : Nat) : Int)) (x_move rfl) ?_
                refine st_q (v := .int .i64 (((i + 1) : Nat) : Int)) (x_addN rfl rfl (by omega)) ?_
                refine st_q (v := .int .i64 (((i + 1) : Nat) : Int)) (x_assign rfl) ?_
                refine st_nil ?_
                refine kn90 _ ((i + 1), rs2, lv2) _ ⟨rfl, rfl, rfl, rfl, rfl, trivial⟩ ⟨hE138, ?_⟩ ?_
                ·
                  try dsimp only
                  refine ⟨?_, hF136⟩
                  exact ⟨by omega, hR.no hm (by assumption), hF137⟩
                ·
                  (try dsimp only); omega
        ·
          refine exit ?_
          refine ke98 _ _ _ ?_
          refine ke92 _ _ _ ?_
          refine kb82 _ _ ?_
          refine kn66 _ _ ?_
          refine kn51 _ (rs2, lv2) _ ⟨rfl, rfl, rfl, rfl, trivial⟩ ⟨hx87, ?_⟩ ?_
          ·
            try dsimp only
            refine ⟨?_, hC86⟩
            obtain rfl : i = es.length := by omega
            exact ⟨hR.z, fun h => (hR.same h).2, hOl2⟩
          ·
            (try dsimp only)
            rw [show rs = true from by assumption]
            exact rzm_lt hZ hR
    ·
      refine exit ?_
      refine ke59 _ _ _ ?_
      refine ke53 _ _ _ ?_
      refine kb43 _ _ ?_
      refine kn36 _ _ ?_
      refine seqK fun Q226 kn227 kr228 ke229 => ?_
      refine region ?_
      refine st_q (v := .slice none 0 0) (x_assign rfl) ?_
      refine st_nil ?_
      refine kn227 _ _ ?_
      refine seqK fun Q230 kn231 kr232 ke233 => ?_
      refine seqK fun Q234 kn235 kr236 ke237 => ?_
      refine region ?_
      refine st_q (v := .int .i64 ((0 : Nat) : Int)) (x_assign rfl) ?_
      refine st_nil ?_
      refine kn235 _ _ ?_
      refine blockK fun Q238 kn239 kr240 kx241 kb242 => ?_
      refine loopK (α := Nat × Value) (fun x => [(6, .slice an ((nodesL xs es).length) cn), (7, .slice ((some ⟨w9.heap.size, 0, none⟩)) ((nodesL xs es).length) ((nodesL xs es).length)), (12, x.2), (13, .int .i64 ((x.1 : Nat) : Int))]) (fun x w243 => Below w0.heap.size w0 w243 ∧ (x.1 ≤ (nodesL xs es).length ∧ Own w243.heap w0.heap.size 45 2 x.2 x.1 (flat enR ((ranksOf (nodesL xs es) (fun s => el lv (ixS (nodesL xs es) s))).take x.1))) ∧ Own w243.heap w0.heap.size 9 1 (.slice an (nodesL xs es).length cn) (nodesL xs es).length (flat enS (nodesL xs es)) ∧ OB w243.heap w0.heap.size 3 1 w9.heap.size (nodesL xs es).length (flat enN lv)) (fun x => (nodesL xs es).length - x.1) (0, .slice none 0 0) ⟨rfl, rfl, rfl, rfl, trivial⟩ ?_ ?_
      ·
        refine ⟨hx48, ?_⟩
        try dsimp only
        refine ⟨?_, hC47, hOl⟩
        exact ⟨Nat.zero_le _, Own.nil _ _ _ _⟩
      ·
        rintro τ244 ⟨i2, v⟩ w245 ⟨hx248, ⟨⟨hi2, hO⟩, hC246, hC247⟩⟩
        try dsimp only at hi2 hO hC246 hC247
        have hz249 := hx248.le
        intro Q250 kn251 kr252 ke253
        obtain ⟨a254, c255, rfl, hm256, hm257⟩ := hO.src.form
        refine seqK fun Q258 kn259 kr260 ke261 => ?_
        refine seqK fun Q262 kn263 kr264 ke265 => ?_
        refine region ?_
        refine st_q (v := .int .i64 ((i2 : Nat) : Int)) (x_move rfl) ?_
        refine st_q (v := .slice an ((nodesL xs es).length) cn) (x_move rfl) ?_
        refine st_q (v := .int .i64 (((nodesL xs es).length : Nat) : Int)) (x_lenSl rfl Try.underlying22 rfl) ?_
        refine st_q (v := .bool (decide (i2 < ((nodesL xs es).length)))) (x_lssN rfl rfl) ?_
        refine st_nil ?_
        refine kn263 _ _ ?_
        refine cnd (p := i2 < ((nodesL xs es).length)) rfl (fun h266 => ?_) (fun h266 => ?_)
        ·
          refine skip ?_
          refine kn259 _ _ ?_
          refine seqK fun Q267 kn268 kr269 ke270 => ?_
          refine blockK fun Q271 kn272 kr273 kx274 kb275 => ?_
          refine regionD1 [4, 8] [0, 1, 2, 3, 4, 5, 6, 7, 8, 9, 12] (.one 0 (.one 1 (.one 2 (.one 3 (.one 4 (.one 5 (.one 6 (.one 7 (.one 8 (.one 9 (.one 10 (.one 11 (.one 12 .done))))))))))))) (by kernel_rfl) (by kernel_rfl) ?_
          intro w276 hx277 hs278
          have hF279 := hC246.ext hx277
          have hF280 := hC247.ext hx277
          have hF281 := hO.ext hx277
          have hE282 : Below w0.heap.size w0 w276 := hx277.e hx248 (Nat.le_refl _)
          have hz283 := hE282.le
          have hs284 := hx277.size
          have hS285 : Ext w276 w276 := Below.refl _ _
          refine d_q (v := .slice a254 i2 c255) rfl rfl (fun _ => x_move rfl) ?_
          refine d_q (v := .slice an ((nodesL xs es).length) cn) rfl rfl (fun _ => x_move rfl) ?_
          refine d_q (v := .int .i64 ((i2 : Nat) : Int)) rfl rfl (fun _ => x_move rfl) ?_
          obtain ⟨b286, o287, ha288, hc289⟩ := hF279.src.at (by omega)
          refine d_q (v := .pointer (some ⟨b286, o287 + i2 * 1, none⟩)) rfl rfl (fun _ => x_index' T.sl22 rfl ha288 rfl (by omega)) ?_
          refine d_l (v := .string (el (nodesL xs es) i2)) rfl rfl rfl (fun v291 hw290 => x_load1 T.na9 rfl ((hc289.elem enS_len (i := i2) (by omega)).ext hw290)) ?_
          refine d_q (v := .slice ((some ⟨w9.heap.size, 0, none⟩)) ((nodesL xs es).length) ((nodesL xs es).length)) rfl rfl (fun _ => x_move rfl) ?_
          refine d_q (v := .int .i64 ((i2 : Nat) : Int)) rfl rfl (fun _ => x_move rfl) ?_
          refine d_q (v := .pointer (some ⟨w9.heap.size, 0 + i2 * 1, none⟩)) rfl rfl (fun _ => x_index T.sl38 rfl rfl (by omega)) ?_
          refine d_l (v := .int .i64 (((el lv i2) : Nat) : Int)) rfl rfl rfl (fun v293 hw292 => x_load1 T.na3 rfl ((hF280.cells.elem enN_len (i := i2) (by omega)).ext hw292)) ?_
          refine d_q (v := .agg #[.string (el (nodesL xs es) i2), .int .i64 (((el lv i2) : Nat) : Int)]) rfl rfl (fun _ => x_build (fun _ => by kernel_rfl)) ?_
          refine d_e (by decide) (d_e' rfl rfl (e_buildSlice (cs := [.string (el (nodesL xs es) i2), .int .i64 (((el lv i2) : Nat) : Int)]) (e := 45) (fun _ => by kernel_rfl) ?_))
          intro w294 hA295
          have hx296 := hA295.ext
          have hs297 := hA295.size
          have hB298 : Blk w294.heap w276.heap.size [.string (el (nodesL xs es) i2), .int .i64 (((el lv i2) : Nat) : Int)] 45 := hA295.new
          have hF299 := hF279.ext hx296
          have hF300 := hF280.ext hx296
          have hF301 := hF281.ext hx296
          have hF302 := hc289.ext hx296
          have hE303 : Below w0.heap.size w0 w294 := hx296.e hE282 (Nat.le_refl _)
          have hz304 := hE303.le
          have hs305 := hx296.size
          have hS306 := hS285.trans (hx296.mono hS285.size)
          refine ⟨fun _ => hS306, ?_⟩
          refine d_e (by decide) (d_e' rfl rfl (e_appendX T.sl32 rfl rfl hF301 (hB298.src1 (k := 2) (m := 1) rfl (by omega)) (ones (by rfl)) (by omega) (by decide) (by omega) ?_))
          intro v307 w308 hO309 hG310 hN311 hW312
          have hF313 := hF299.gk (hG310) (hF301.rowk) (by decide)
          have hF314 := hF300.gk (hG310) (hF301.rowk) (by decide)
          have hE316 : Below w0.heap.size w0 w308 := grown_below hG310 hE303 (Nat.le_refl _) (fun b hb => (by have := (hF301.lt hb).1; clear hb; omega))
          have hz317 := hE316.le
          have hs318 := hG310.size
          refine ⟨need_no (by kernel_rfl), ?_⟩
          have hO319 := Own.snoc (enc := enR) (u := (el (nodesL xs es) i2, (((el lv i2) : Nat) : Int))) hO309
          obtain ⟨a320, c321, rfl, hm322, hm323⟩ := hO319.src.form
          refine d_q (v := .slice a320 ((i2 + 1)) c321) rfl rfl (fun _ => x_assign rfl) ?_
          refine d_done ?_
          refine kn272 _ _ ?_
          refine kn268 _ _ ?_
          refine region ?_
          refine st_q (v := .int .i64 ((i2 : Nat) : Int)) (x_move rfl) ?_
          refine st_q (v := .int .i64 (((i2 + 1) : Nat) : Int)) (x_addN rfl rfl (by omega)) ?_
          refine st_q (v := .int .i64 (((i2 + 1) : Nat) : Int)) (x_assign rfl) ?_
          refine st_nil ?_
          refine kn251 _ ((i2 + 1), .slice a320 ((i2 + 1)) c321) _ ⟨rfl, rfl, rfl, rfl, trivial⟩ ⟨hE316, ?_⟩ ?_
          ·
            try dsimp only
            refine ⟨?_, hF313, hF314⟩
            have hrk : el (ranksOf (nodesL xs es) (fun s => el lv (ixS (nodesL xs es) s))) i2 = (el (nodesL xs es) i2, ((el lv i2 : Nat) : Int)) := by rw [ranksOf_el (by omega), ixS_of_el (nodesL_SX xs es) (by omega)]
            refine ⟨by omega, ?_⟩
            rw [take_succ_el (by rw [ranksOf_len]; omega), hrk]
            exact hO319
          ·
            (try dsimp only); omega
        ·
          refine exit ?_
          refine ke261 _ _ _ ?_
          refine ke253 _ _ _ ?_
          refine kb242 _ _ ?_
          refine kn231 _ _ ?_
          refine seqK fun Q324 kn325 kr326 ke327 => ?_
          refine region ?_
          refine st_q (v := .slice a254 i2 c255) (x_move rfl) ?_
          refine st_q (v := .slice a254 i2 c255) (x_assign rfl) ?_
          refine st_q (v := .int .i64 ((0 : Nat) : Int)) (x_assign rfl) ?_
          refine st_nil ?_
          refine kn325 _ _ ?_
          refine ret ?_
          refine leave2 (P := Try.prog) (fn := Try.f17) (t := 4) (u := 5) (v := .slice a254 i2 c255) (v' := .int .i64 ((0 : Nat) : Int)) rfl rfl rfl ?_
          obtain rfl : i2 = (nodesL xs es).length := by omega
          have hfull : (ranksOf (nodesL xs es) (fun s => el lv (ixS (nodesL xs es) s))).take (nodesL xs es).length = (ranksOf (nodesL xs es) (fun s => el lv (ixS (nodesL xs es) s))) := List.take_of_length_le (by rw [ranksOf_len]; exact Nat.le_refl _)
          have hL := hZ.done (hQ (by assumption))
          exact .inr ⟨fun hn => hn.no _ hL.rule, _, _, rfl, hx248, hL, by have h := hO; rw [hfull] at h; exact h⟩

set_option maxHeartbeats 4000000 in
theorem far47 (ns : List ByteArray) (es : List Edge) (z : ByteArray) (va vb : Value) (w0 : World) (ha : Src w0.heap va ns.length 1 (flat enS ns)) (hb : Src w0.heap vb es.length 3 (flat enE es)) (hends : ∀ k, k < es.length → (el es k).1 ∈ ns ∧ (el es k).2.1 ∈ ns) (hz : z ∈ ns) (hln : ns.length ≤ 4194304) : Calls Try.prog 47 #[va, vb, .string z] w0 fun e w' => ∃ v F, e = .returned v ∧ Ext w0 w' ∧ Dst (outN ns es) ns.length (ixS ns z) F ∧ (∀ u, u < ns.length → -1 ≤ el F u ∧ el F u ≤ ns.length + 1) ∧ Own w'.heap w0.heap.size 3 1 v ns.length (flat enI F) := by
  have hE0 : Below w0.heap.size w0 w0 := Below.refl _ _
  have hz0 := hE0.le
  obtain ⟨a, ca, rfl, hca, hca1⟩ := ha.form
  obtain ⟨b, cb, rfl, hcb, hcb1⟩ := hb.form
  have hzl := ixS_lt hz
  refine enter Try.func47 rfl 73 Try.ntmps47 rfl ?_
  refine seqK fun Q1 kn2 kr3 ke4 => ?_
  refine region ?_
  refine st_q (v := .slice none 0 0) (x_assign rfl) ?_
  refine st_nil ?_
  refine kn2 _ _ ?_
  refine seqK fun Q5 kn6 kr7 ke8 => ?_
  refine region ?_
  refine st_q (v := .slice a ns.length ca) (x_move rfl) ?_
  refine st_q (v := .int .i64 ((ns.length : Nat) : Int)) (x_lenSl rfl Try.underlying22 rfl) ?_
  refine st_e (e_makeSlice T.sl38 rfl rfl (by omega) (by omega) ?_)
  intro w9 hA10
  have hx11 := hA10.ext
  have hs13 := hA10.size
  have hA10x : Al w0 w9 (.cells (flat enI (List.replicate ns.length (0 : Int))).toArray 3) := by rw [flat_repI]; exact hA10
  have hO12 := OB.new (lo := w0.heap.size) (k := 1) (c := ns.length) hA10x (by omega) (by rw [flat_length enI_len]; simp) (by omega)
  have hE14 : Below w0.heap.size w0 w9 := hx11.e hE0 (Nat.le_refl _)
  have hz15 := hE14.le
  have hs16 := hx11.size
  have hl17 := hO12.lo
  have hl18 := hO12.lt
  refine st_q (v := .slice ((some ⟨w0.heap.size, 0, none⟩)) ns.length ns.length) (x_assign rfl) ?_
  refine st_nil ?_
  refine kn6 _ _ ?_
  refine seqK fun Q19 kn20 kr21 ke22 => ?_
  refine seqK fun Q23 kn24 kr25 ke26 => ?_
  refine region ?_
  refine st_q (v := .int .i64 ((0 : Nat) : Int)) (x_assign rfl) ?_
  refine st_nil ?_
  refine kn24 _ _ ?_
  refine blockK fun Q27 kn28 kr29 kx30 kb31 => ?_
  refine loopK (α := Nat × (List Int)) (fun x => [(0, .slice a ns.length ca), (1, .slice b es.length cb), (2, .string z), (7, .slice ((some ⟨w0.heap.size, 0, none⟩)) ns.length ns.length), (8, .int .i64 ((x.1 : Nat) : Int))]) (fun x w32 => Below w0.heap.size w0 w32 ∧ x.1 ≤ ns.length ∧ x.2.length = ns.length ∧ (∀ j, j < x.1 → el x.2 j = -1) ∧ OB w32.heap w0.heap.size 3 1 w0.heap.size ns.length (flat enI x.2)) (fun x => ns.length - x.1) (0, (List.replicate ns.length (0 : Int))) ⟨rfl, rfl, rfl, rfl, rfl, trivial⟩ ?_ ?_
  ·
    refine ⟨hE14, ?_⟩
    try dsimp only
    exact ⟨Nat.zero_le _, by simp, fun j hj => by omega, hO12⟩
  ·
    rintro τ33 ⟨i, F⟩ w34 ⟨hx35, ⟨hi, hFl, hFm, hOf⟩⟩
    try dsimp only at hi hFl hFm hOf
    have hz36 := hx35.le
    intro Q37 kn38 kr39 ke40
    have hl41 := hOf.lo
    have hl42 := hOf.lt
    refine seqK fun Q43 kn44 kr45 ke46 => ?_
    refine seqK fun Q47 kn48 kr49 ke50 => ?_
    refine region ?_
    refine st_q (v := .int .i64 ((i : Nat) : Int)) (x_move rfl) ?_
    refine st_q (v := .slice ((some ⟨w0.heap.size, 0, none⟩)) ns.length ns.length) (x_move rfl) ?_
    refine st_q (v := .int .i64 ((ns.length : Nat) : Int)) (x_lenSl rfl Try.underlying38 rfl) ?_
    refine st_q (v := .bool (decide (i < ns.length))) (x_lssN rfl rfl) ?_
    refine st_nil ?_
    refine kn48 _ _ ?_
    refine cnd (p := i < ns.length) rfl (fun h51 => ?_) (fun h51 => ?_)
    ·
      refine skip ?_
      refine kn44 _ _ ?_
      refine seqK fun Q52 kn53 kr54 ke55 => ?_
      refine blockK fun Q56 kn57 kr58 kx59 kb60 => ?_
      refine region ?_
      refine st_q (v := .slice ((some ⟨w0.heap.size, 0, none⟩)) ns.length ns.length) (x_move rfl) ?_
      refine st_q (v := .int .i64 ((i : Nat) : Int)) (x_move rfl) ?_
      refine st_q (v := .pointer (some ⟨w0.heap.size, 0 + i * 1, none⟩)) (x_index T.sl38 rfl rfl (by omega)) ?_
      refine st_s (e_stO (v := .int .i64 (-1)) (u := -1) enI_len T.sz3 rfl rfl rfl hOf (by first | omega | (rw [List.length_set]; omega)) (by rfl) ?_)
      intro w61 _ hP62 hB63
      have hs64 := hP62.size
      have hE65 : Below w0.heap.size w0 w61 := hP62.below hx35 (by omega)
      have hz66 := hE65.le
      refine st_nil ?_
      refine kn57 _ _ ?_
      refine kn53 _ _ ?_
      refine region ?_
      refine st_q (v := .int .i64 ((i : Nat) : Int)) (x_move rfl) ?_
      refine st_q (v := .int .i64 (((i + 1) : Nat) : Int)) (x_addN rfl rfl (by omega)) ?_
      refine st_q (v := .int .i64 (((i + 1) : Nat) : Int)) (x_assign rfl) ?_
      refine st_nil ?_
      refine kn38 _ ((i + 1), (F.set i (-1))) _ ⟨rfl, rfl, rfl, rfl, rfl, trivial⟩ ⟨hE65, ?_⟩ ?_
      ·
        try dsimp only
        refine ⟨by omega, by rw [List.length_set]; exact hFl, fun j hj => ?_, hB63⟩
        by_cases e : i = j
        · subst e; rw [el_set_same (by omega)]
        · rw [el_set_ne e]; exact hFm j (by omega)
      ·
        (try dsimp only); omega
    ·
      refine exit ?_
      refine ke46 _ _ _ ?_
      refine ke40 _ _ _ ?_
      refine kb31 _ _ ?_
      refine kn20 _ _ ?_
      refine seqK fun Q67 kn68 kr69 ke70 => ?_
      refine region ?_
      refine st_q (v := .slice ((some ⟨w0.heap.size, 0, none⟩)) ns.length ns.length) (x_move rfl) ?_
      refine st_q (v := .slice a ns.length ca) (x_move rfl) ?_
      refine st_q (v := .string z) (x_move rfl) ?_
      refine st_c (t_call [.slice a ns.length ca, .string z] T.cf44 rfl rfl) (place44 ns z _ _ (ha.below hx35)) ?_
      rintro _ w71 ⟨e73, hx72⟩
      rw [pl_ix hz] at e73
      subst e73
      refine ⟨_, rfl, ?_⟩
      have hF74 := hOf.ext hx72
      have hE75 : Below w0.heap.size w0 w71 := hx72.e hx35 (Nat.le_refl _)
      have hz76 := hE75.le
      have hs77 := hx72.size
      refine st_q (v := .pointer (some ⟨w0.heap.size, 0 + ((ixS ns z)) * 1, none⟩)) (x_index T.sl38 rfl rfl (by omega)) ?_
      refine st_s (e_stO (v := .int .i64 ((0 : Nat) : Int)) (u := 0) enI_len T.sz3 rfl rfl rfl hF74 (by first | omega | (rw [List.length_set]; omega)) (by rfl) ?_)
      intro w78 _ hP79 hB80
      have hs81 := hP79.size
      have hE82 : Below w0.heap.size w0 w78 := hP79.below hE75 (by omega)
      have hz83 := hE82.le
      refine st_nil ?_
      refine kn68 _ _ ?_
      refine seqK fun Q84 kn85 kr86 ke87 => ?_
      refine seqK fun Q88 kn89 kr90 ke91 => ?_
      refine region ?_
      refine st_q (v := .int .i64 ((0 : Nat) : Int)) (x_assign rfl) ?_
      refine st_nil ?_
      refine kn89 _ _ ?_
      refine blockK fun Q92 kn93 kr94 kx95 kb96 => ?_
      refine loopK (α := Nat × (List Int)) (fun x => [(0, .slice a ns.length ca), (1, .slice b es.length cb), (7, .slice ((some ⟨w0.heap.size, 0, none⟩)) ns.length ns.length), (9, .int .i64 ((x.1 : Nat) : Int))]) (fun x w97 => Below w0.heap.size w0 w97 ∧ x.1 ≤ ns.length ∧ FI (outN ns es) ns.length (ixS ns z) (tF ns es) (tgt ns es) x.1 0 x.2 ∧ OB w97.heap w0.heap.size 3 1 w0.heap.size ns.length (flat enI x.2)) (fun x => ns.length - x.1) (0, (F.set ((ixS ns z)) 0)) ⟨rfl, rfl, rfl, rfl, trivial⟩ ?_ ?_
      ·
        refine ⟨hE82, ?_⟩
        try dsimp only
        obtain rfl : i = ns.length := by omega
        exact ⟨Nat.zero_le _, FI.start hFl (fun u hu => hFm u (by omega)) hzl, hB80⟩
      ·
        rintro τ98 ⟨n, F2⟩ w99 ⟨hx100, ⟨hn, hI2, hOf2⟩⟩
        try dsimp only at hn hI2 hOf2
        have hz101 := hx100.le
        intro Q102 kn103 kr104 ke105
        have hl106 := hOf2.lo
        have hl107 := hOf2.lt
        have hFl2 := hI2.len
        refine seqK fun Q108 kn109 kr110 ke111 => ?_
        refine seqK fun Q112 kn113 kr114 ke115 => ?_
        refine region ?_
        refine st_q (v := .int .i64 ((n : Nat) : Int)) (x_move rfl) ?_
        refine st_q (v := .slice a ns.length ca) (x_move rfl) ?_
        refine st_q (v := .int .i64 ((ns.length : Nat) : Int)) (x_lenSl rfl Try.underlying22 rfl) ?_
        refine st_q (v := .bool (decide (n < ns.length))) (x_lssN rfl rfl) ?_
        refine st_nil ?_
        refine kn113 _ _ ?_
        refine cnd (p := n < ns.length) rfl (fun h116 => ?_) (fun h116 => ?_)
        ·
          refine skip ?_
          refine kn109 _ _ ?_
          refine seqK fun Q117 kn118 kr119 ke120 => ?_
          refine blockK fun Q121 kn122 kr123 kx124 kb125 => ?_
          refine seqK fun Q126 kn127 kr128 ke129 => ?_
          refine region ?_
          refine st_q (v := .int .i64 ((0 : Nat) : Int)) (x_assign rfl) ?_
          refine st_nil ?_
          refine kn127 _ _ ?_
          refine blockK fun Q130 kn131 kr132 kx133 kb134 => ?_
          refine loopK (α := Nat × (List Int)) (fun x => [(0, .slice a ns.length ca), (1, .slice b es.length cb), (7, .slice ((some ⟨w0.heap.size, 0, none⟩)) ns.length ns.length), (9, .int .i64 ((n : Nat) : Int)), (10, .int .i64 ((x.1 : Nat) : Int))]) (fun x w135 => Below w0.heap.size w0 w135 ∧ x.1 ≤ es.length ∧ FI (outN ns es) ns.length (ixS ns z) (tF ns es) (tgt ns es) n x.1 x.2 ∧ OB w135.heap w0.heap.size 3 1 w0.heap.size ns.length (flat enI x.2)) (fun x => es.length - x.1) (0, F2) ⟨rfl, rfl, rfl, rfl, rfl, trivial⟩ ?_ ?_
          ·
            refine ⟨hx100, ?_⟩
            try dsimp only
            exact ⟨Nat.zero_le _, hI2, hOf2⟩
          ·
            rintro τ136 ⟨i3, F3⟩ w137 ⟨hx138, ⟨hi3, hI3, hOf3⟩⟩
            try dsimp only at hi3 hI3 hOf3
            have hz139 := hx138.le
            intro Q140 kn141 kr142 ke143
            have hl144 := hOf3.lo
            have hl145 := hOf3.lt
            have hFl3 := hI3.len
            refine seqK fun Q146 kn147 kr148 ke149 => ?_
            refine seqK fun Q150 kn151 kr152 ke153 => ?_
            refine region ?_
            refine st_q (v := .int .i64 ((i3 : Nat) : Int)) (x_move rfl) ?_
            refine st_q (v := .slice b es.length cb) (x_move rfl) ?_
            refine st_q (v := .int .i64 ((es.length : Nat) : Int)) (x_lenSl rfl Try.underlying23 rfl) ?_
            refine st_q (v := .bool (decide (i3 < es.length))) (x_lssN rfl rfl) ?_
            refine st_nil ?_
            refine kn151 _ _ ?_
            refine cnd (p := i3 < es.length) rfl (fun h154 => ?_) (fun h154 => ?_)
            ·
              refine skip ?_
              refine kn147 _ _ ?_
              refine seqK fun Q155 kn156 kr157 ke158 => ?_
              refine blockK fun Q159 kn160 kr161 kx162 kb163 => ?_
              refine seqK fun Q164 kn165 kr166 ke167 => ?_
              refine region ?_
              have hm1 := (hends i3 (by omega)).1
              have hm2 := (hends i3 (by omega)).2
              have hi1 := ixS_lt hm1
              have hi2 := ixS_lt hm2
              refine st_q (v := .slice a ns.length ca) (x_move rfl) ?_
              refine st_q (v := .slice b es.length cb) (x_move rfl) ?_
              refine st_q (v := .int .i64 ((i3 : Nat) : Int)) (x_move rfl) ?_
              obtain ⟨b168, o169, ha170, hc171⟩ := hb.at (by omega)
              refine st_q (v := .pointer (some ⟨b168, o169 + i3 * 3, none⟩)) (x_index' T.sl23 rfl ha170 rfl (by omega)) ?_
              refine st_q (v := .pointer (some ⟨b168, o169 + i3 * 3, none⟩)) (x_field (o := o169 + i3 * 3) T.fa47_0 rfl) ?_
              refine st_q (v := .string ((el es i3).1)) (x_load1 T.na9 rfl (((hc171.below hx138).elem enE_len (i := i3) (by omega)).fld 0 rfl)) ?_
              refine st_c (t_call [.slice a ns.length ca, .string ((el es i3).1)] T.cf44 rfl rfl) (place44 ns (el es i3).1 _ _ (ha.below hx138)) ?_
              rintro _ w172 ⟨e174, hx173⟩
              rw [pl_ix hm1] at e174
              subst e174
              refine ⟨_, rfl, ?_⟩
              have hF175 := hOf3.ext hx173
              have hE176 : Below w0.heap.size w0 w172 := hx173.e hx138 (Nat.le_refl _)
              have hz177 := hE176.le
              have hs178 := hx173.size
              refine st_q (v := .int .i64 (((ixS ns (el es i3).1) : Nat) : Int)) (x_assign rfl) ?_
              refine st_nil ?_
              refine kn165 _ _ ?_
              refine seqK fun Q179 kn180 kr181 ke182 => ?_
              refine region ?_
              refine st_q (v := .slice ((some ⟨w0.heap.size, 0, none⟩)) ns.length ns.length) (x_move rfl) ?_
              refine st_q (v := .slice a ns.length ca) (x_move rfl) ?_
              refine st_q (v := .slice b es.length cb) (x_move rfl) ?_
              refine st_q (v := .int .i64 ((i3 : Nat) : Int)) (x_move rfl) ?_
              refine st_q (v := .pointer (some ⟨b168, o169 + i3 * 3, none⟩)) (x_index' T.sl23 rfl ha170 rfl (by omega)) ?_
              refine st_q (v := .pointer (some ⟨b168, o169 + i3 * 3 + 1, none⟩)) (x_field (o := o169 + i3 * 3) T.fa47_1 rfl) ?_
              refine st_q (v := .string ((el es i3).2.1)) (x_load1 T.na9 rfl (((hc171.below hE176).elem enE_len (i := i3) (by omega)).fld 1 rfl)) ?_
              refine st_c (t_call [.slice a ns.length ca, .string ((el es i3).2.1)] T.cf44 rfl rfl) (place44 ns (el es i3).2.1 _ _ (ha.below hE176)) ?_
              rintro _ w183 ⟨e185, hx184⟩
              rw [pl_ix hm2] at e185
              subst e185
              refine ⟨_, rfl, ?_⟩
              have hF186 := hF175.ext hx184
              have hE187 : Below w0.heap.size w0 w183 := hx184.e hE176 (Nat.le_refl _)
              have hz188 := hE187.le
              have hs189 := hx184.size
              refine st_q (v := .pointer (some ⟨w0.heap.size, 0 + ((ixS ns (el es i3).2.1)) * 1, none⟩)) (x_index T.sl38 rfl rfl (by omega)) ?_
              refine st_q (v := .int .i64 ((el F3 ((ixS ns (el es i3).2.1))))) (x_load1 T.na3 rfl (hF186.cells.elem enI_len (i := (ixS ns (el es i3).2.1)) (by first | omega | (rw [List.length_set]; omega)))) ?_
              refine st_q (v := .int .i64 ((n : Nat) : Int)) (x_move rfl) ?_
              refine st_q (v := .bool (decide (((el F3 ((ixS ns (el es i3).2.1)))) = (((n : Nat) : Int))))) (x_eql rfl rfl) ?_
              refine st_if (p := ((el F3 ((ixS ns (el es i3).2.1)))) = (((n : Nat) : Int))) (x_move rfl) (fun h190 => ?_) (fun h190 => ?_)
              ·
                refine st_gq 12 60 rfl rfl (by decide) ?_
                refine st_q (v := .slice ((some ⟨w0.heap.size, 0, none⟩)) ns.length ns.length) (x_move rfl) ?_
                refine st_gq 12 60 rfl rfl (by decide) ?_
                refine st_q (v := .int .i64 (((ixS ns (el es i3).1) : Nat) : Int)) (x_move rfl) ?_
                refine st_gq 12 60 rfl rfl (by decide) ?_
                refine st_q (v := .pointer (some ⟨w0.heap.size, 0 + ((ixS ns (el es i3).1)) * 1, none⟩)) (x_index T.sl38 rfl rfl (by omega)) ?_
                refine st_gq 12 60 rfl rfl (by decide) ?_
                refine st_q (v := .int .i64 ((el F3 ((ixS ns (el es i3).1))))) (x_load1 T.na3 rfl (hF186.cells.elem enI_len (i := (ixS ns (el es i3).1)) (by first | omega | (rw [List.length_set]; omega)))) ?_
                refine st_gq 12 60 rfl rfl (by decide) ?_
                refine st_q (v := .bool (decide (((el F3 ((ixS ns (el es i3).1)))) < 0))) (x_lss rfl rfl) ?_
                refine st_q (v := .bool (decide (((el F3 ((ixS ns (el es i3).1)))) < 0))) (x_pickT rfl rfl) ?_
                refine st_nil ?_
                refine kn180 _ _ ?_
                refine cnd (p := ((el F3 ((ixS ns (el es i3).1)))) < 0) rfl (fun h191 => ?_) (fun h191 => ?_)
                ·
                  refine region ?_
                  refine st_q (v := .slice ((some ⟨w0.heap.size, 0, none⟩)) ns.length ns.length) (x_move rfl) ?_
                  refine st_q (v := .int .i64 (((ixS ns (el es i3).1) : Nat) : Int)) (x_move rfl) ?_
                  refine st_q (v := .int .i64 ((n : Nat) : Int)) (x_move rfl) ?_
                  refine st_q (v := .int .i64 (((n + 1) : Nat) : Int)) (x_addN rfl rfl (by omega)) ?_
                  refine st_q (v := .pointer (some ⟨w0.heap.size, 0 + ((ixS ns (el es i3).1)) * 1, none⟩)) (x_index T.sl38 rfl rfl (by omega)) ?_
                  refine st_s (e_stO (v := .int .i64 (((n + 1) : Nat) : Int)) (u := (((n + 1) : Nat) : Int)) enI_len T.sz3 rfl rfl rfl hF186 (by first | omega | (rw [List.length_set]; omega)) (by rfl) ?_)
                  intro w192 _ hP193 hB194
                  have hs195 := hP193.size
                  have hE196 : Below w0.heap.size w0 w192 := hP193.below hE187 (by omega)
                  have hz197 := hE196.le
                  refine st_nil ?_
                  refine kn160 _ _ ?_
                  refine kn156 _ _ ?_
                  refine region ?_
                  refine st_q (v := .int .i64 ((i3 : Nat) : Int)) (x_move rfl) ?_
                  refine st_q (v := .int .i64 (((i3 + 1) : Nat) : Int)) (x_addN rfl rfl (by omega)) ?_
                  refine st_q (v := .int .i64 (((i3 + 1) : Nat) : Int)) (x_assign rfl) ?_
                  refine st_nil ?_
                  refine kn141 _ ((i3 + 1), (F3.set ((ixS ns (el es i3).1)) ((((n + 1) : Nat) : Int)))) _ ⟨rfl, rfl, rfl, rfl, rfl, trivial⟩ ⟨hE196, ?_⟩ ?_
                  ·
                    try dsimp only
                    exact ⟨by omega, hI3.set (tgt_mem (by omega)) hi1 hi2 (by assumption) (by assumption), hB194⟩
                  ·
                    (try dsimp only); omega
                ·
                  refine skip ?_
                  refine kn160 _ _ ?_
                  refine kn156 _ _ ?_
                  refine region ?_
                  refine st_q (v := .int .i64 ((i3 : Nat) : Int)) (x_move rfl) ?_
                  refine st_q (v := .int .i64 (((i3 + 1) : Nat) : Int)) (x_addN rfl rfl (by omega)) ?_
                  refine st_q (v := .int .i64 (((i3 + 1) : Nat) : Int)) (x_assign rfl) ?_
                  refine st_nil ?_
                  refine kn141 _ ((i3 + 1), F3) _ ⟨rfl, rfl, rfl, rfl, rfl, trivial⟩ ⟨hE187, ?_⟩ ?_
                  ·
                    try dsimp only
                    exact ⟨by omega, hI3.no (tgt_mem (by omega)) hi2 (fun hh => by first | exact absurd hh.1 (by assumption) | exact absurd hh.2 (by assumption)), hF186⟩
                  ·
                    (try dsimp only); omega
              ·
                refine st_gn 12 60 rfl rfl (by decide) rfl ?_
                refine st_gn 12 60 rfl rfl (by decide) rfl ?_
                refine st_gn 12 60 rfl rfl (by decide) rfl ?_
                refine st_gn 12 60 rfl rfl (by decide) rfl ?_
                refine st_gn 12 60 rfl rfl (by decide) rfl ?_
                refine st_q (v := .bool false) (x_pickF rfl rfl) ?_
                refine st_nil ?_
                refine kn180 _ _ ?_
                refine cndF rfl ?_
                refine skip ?_
                refine kn160 _ _ ?_
                refine kn156 _ _ ?_
                refine region ?_
                refine st_q (v := .int .i64 ((i3 : Nat) : Int)) (x_move rfl) ?_
                refine st_q (v := .int .i64 (((i3 + 1) : Nat) : Int)) (x_addN rfl rfl (by omega)) ?_
                refine st_q (v := .int .i64 (((i3 + 1) : Nat) : Int)) (x_assign rfl) ?_
                refine st_nil ?_
                refine kn141 _ ((i3 + 1), F3) _ ⟨rfl, rfl, rfl, rfl, rfl, trivial⟩ ⟨hE187, ?_⟩ ?_
                ·
                  try dsimp only
                  exact ⟨by omega, hI3.no (tgt_mem (by omega)) hi2 (fun hh => by first | exact absurd hh.1 (by assumption) | exact absurd hh.2 (by assumption)), hF186⟩
                ·
                  (try dsimp only); omega
            ·
              refine exit ?_
              refine ke149 _ _ _ ?_
              refine ke143 _ _ _ ?_
              refine kb134 _ _ ?_
              refine kn122 _ _ ?_
              refine kn118 _ _ ?_
              refine region ?_
              refine st_q (v := .int .i64 ((n : Nat) : Int)) (x_move rfl) ?_
              refine st_q (v := .int .i64 (((n + 1) : Nat) : Int)) (x_addN rfl rfl (by omega)) ?_
              refine st_q (v := .int .i64 (((n + 1) : Nat) : Int)) (x_assign rfl) ?_
              refine st_nil ?_
              refine kn103 _ ((n + 1), F3) _ ⟨rfl, rfl, rfl, rfl, trivial⟩ ⟨hx138, ?_⟩ ?_
              ·
                try dsimp only
                obtain rfl : i3 = es.length := by omega
                exact ⟨by omega, hI3.next outN_edge, hOf3⟩
              ·
                (try dsimp only); omega
        ·
          refine exit ?_
          refine ke111 _ _ _ ?_
          refine ke105 _ _ _ ?_
          refine kb96 _ _ ?_
          refine kn85 _ _ ?_
          refine seqK fun Q198 kn199 kr200 ke201 => ?_
          refine region ?_
          refine st_q (v := .slice ((some ⟨w0.heap.size, 0, none⟩)) ns.length ns.length) (x_move rfl) ?_
          refine st_q (v := .slice ((some ⟨w0.heap.size, 0, none⟩)) ns.length ns.length) (x_assign rfl) ?_
          refine st_nil ?_
          refine kn199 _ _ ?_
          refine ret ?_
          refine leave1 (P := Try.prog) (fn := Try.f47) (t := 6) (v := .slice ((some ⟨w0.heap.size, 0, none⟩)) ns.length ns.length) rfl rfl ?_
          obtain rfl : n = ns.length := by omega
          exact ⟨_, F2, rfl, hx100, hI2.done (outN_lt hends), fun u hu => hI2.range hu, hOf2.own (Nat.le_refl _) (by rw [flat_length enI_len, hFl2, Nat.mul_one])⟩

set_option maxHeartbeats 4000000 in
theorem refcycle19 (es : List Edge) (vb : Value) (w0 : World) (hb : Src w0.heap vb es.length 3 (flat enE es)) (hn : 2 * es.length ≤ 2097152) : Calls Try.prog 19 #[vb] w0 fun e w' => ∃ v row ok, e = .returned (.tuple #[v, .bool ok]) ∧ Ext w0 w' ∧ IsCyc (nodesL [] es) es row ok ∧ Own w'.heap w0.heap.size 3 1 v row.length (flat enN row) := by
  have hE0 : Below w0.heap.size w0 w0 := Below.refl _ _
  have hz0 := hE0.le
  obtain ⟨b, cb, rfl, hcb, hcb1⟩ := hb.form
  refine enter Try.func19 rfl 119 Try.ntmps19 rfl ?_
  refine seqK fun Q1 kn2 kr3 ke4 => ?_
  refine region ?_
  refine st_q (v := .slice none 0 0) (x_assign rfl) ?_
  refine st_q (v := .bool false) (x_assign rfl) ?_
  refine st_nil ?_
  refine kn2 _ _ ?_
  refine seqK fun Q5 kn6 kr7 ke8 => ?_
  refine region ?_
  refine st_q (v := .slice b es.length cb) (x_move rfl) ?_
  refine st_c (t_call [.slice none 0 0, .slice b es.length cb] T.cf31 rfl rfl) (refnodes31 [] es _ _ _ (Src.nil _ _) (hb.below hE0) (by simp only [List.length_nil]; omega)) ?_
  rintro _ w9 ⟨v11, rfl, hx10, hO12⟩
  refine ⟨_, rfl, ?_⟩
  have hE13 : Below w0.heap.size w0 w9 := hx10.e hE0 (Nat.le_refl _)
  have hz14 := hE13.le
  have hs15 := hx10.size
  obtain ⟨an, cn, rfl, _, _⟩ := hO12.src.form
  have hnl := nodesL_len [] es
  simp only [List.length_nil] at hnl
  have hends : ∀ k, k < es.length → (el es k).1 ∈ (nodesL [] es) ∧ (el es k).2.1 ∈ (nodesL [] es) := fun k hk => ⟨nodesL_mem.2 (.inr ⟨_, el_memE hk, .inl rfl⟩), nodesL_mem.2 (.inr ⟨_, el_memE hk, .inr rfl⟩)⟩
  refine st_q (v := .slice an ((nodesL [] es).length) cn) (x_assign rfl) ?_
  refine st_nil ?_
  refine kn6 _ _ ?_
  refine seqK fun Q16 kn17 kr18 ke19 => ?_
  refine region ?_
  refine st_q (v := .int .i64 (-1)) (x_assign rfl) ?_
  refine st_nil ?_
  refine kn17 _ _ ?_
  refine seqK fun Q20 kn21 kr22 ke23 => ?_
  refine region ?_
  refine st_q (v := .int .i64 ((0 : Nat) : Int)) (x_assign rfl) ?_
  refine st_nil ?_
  refine kn21 _ _ ?_
  refine seqK fun Q24 kn25 kr26 ke27 => ?_
  refine seqK fun Q28 kn29 kr30 ke31 => ?_
  refine region ?_
  refine st_q (v := .int .i64 ((0 : Nat) : Int)) (x_assign rfl) ?_
  refine st_nil ?_
  refine kn29 _ _ ?_
  refine blockK fun Q32 kn33 kr34 kx35 kb36 => ?_
  refine loopK (α := Nat × Int × Int) (fun x => [(0, .slice b es.length cb), (4, .slice an ((nodesL [] es).length) cn), (5, .int .i64 x.2.1), (6, .int .i64 x.2.2), (7, .int .i64 ((x.1 : Nat) : Int))]) (fun x w37 => Ext w9 w37 ∧ x.1 ≤ es.length ∧ CB (nodesL [] es) es x.1 x.2.1 x.2.2) (fun x => es.length - x.1) (0, (-1), ((0 : Nat) : Int)) ⟨rfl, rfl, rfl, rfl, rfl, trivial⟩ ?_ ?_
  ·
    refine ⟨Below.refl _ _, ?_⟩
    try dsimp only
    exact ⟨Nat.zero_le _, CB.start _ _⟩
  ·
    rintro τ38 ⟨i, best, least⟩ w39 ⟨hx40, ⟨hi, hC⟩⟩
    try dsimp only at hi hC
    have hF41 := hO12.ext hx40
    have hE42 : Below w0.heap.size w0 w39 := hx40.e hE13 (Nat.le_refl _)
    have hz43 := hE42.le
    have hs44 := hx40.size
    intro Q45 kn46 kr47 ke48
    refine seqK fun Q49 kn50 kr51 ke52 => ?_
    refine seqK fun Q53 kn54 kr55 ke56 => ?_
    refine region ?_
    refine st_q (v := .int .i64 ((i : Nat) : Int)) (x_move rfl) ?_
    refine st_q (v := .slice b es.length cb) (x_move rfl) ?_
    refine st_q (v := .int .i64 ((es.length : Nat) : Int)) (x_lenSl rfl Try.underlying23 rfl) ?_
    refine st_q (v := .bool (decide (i < es.length))) (x_lssN rfl rfl) ?_
    refine st_nil ?_
    refine kn54 _ _ ?_
    refine cnd (p := i < es.length) rfl (fun h57 => ?_) (fun h57 => ?_)
    ·
      refine skip ?_
      refine kn50 _ _ ?_
      refine seqK fun Q58 kn59 kr60 ke61 => ?_
      refine blockK fun Q62 kn63 kr64 kx65 kb66 => ?_
      refine seqK fun Q67 kn68 kr69 ke70 => ?_
      refine regionD1 [6, 13] [0, 1, 2, 3, 4, 5, 6, 8, 9, 10, 11, 12, 13, 15, 17] (.one 0 (.one 1 (.one 2 (.one 3 (.one 4 (.one 5 (.one 6 (.one 8 (.one 9 (.one 10 (.one 11 (.one 12 (.one 13 (.one 7 (.one 14 (.one 15 (.one 16 (.one 17 .done)))))))))))))))))) (by kernel_rfl) (by kernel_rfl) ?_
      intro w71 hx72 hs73
      have hF74 := hF41.ext hx72
      have hF75 := hx72.e hx40 (Nat.le_refl _)
      have hE76 : Below w0.heap.size w0 w71 := hx72.e hE42 (Nat.le_refl _)
      have hz77 := hE76.le
      have hs78 := hx72.size
      have hS79 : Ext w71 w71 := Below.refl _ _
      have hm1 := (hends i (by omega)).1
      have hm2 := (hends i (by omega)).2
      have hi2 := ixS_lt hm2
      refine d_q (v := .slice an ((nodesL [] es).length) cn) rfl rfl (fun _ => x_move rfl) ?_
      refine d_q (v := .slice b es.length cb) rfl rfl (fun _ => x_move rfl) ?_
      refine d_q (v := .slice b es.length cb) rfl rfl (fun _ => x_move rfl) ?_
      refine d_q (v := .int .i64 ((i : Nat) : Int)) rfl rfl (fun _ => x_move rfl) ?_
      obtain ⟨b80, o81, ha82, hc83⟩ := hb.at (by omega)
      refine d_q (v := .pointer (some ⟨b80, o81 + i * 3, none⟩)) rfl rfl (fun _ => x_index' T.sl23 rfl ha82 rfl (by omega)) ?_
      refine d_q (v := .pointer (some ⟨b80, o81 + i * 3, none⟩)) rfl rfl (fun _ => x_field (o := o81 + i * 3) T.fa47_0 rfl) ?_
      refine d_l (v := .string ((el es i).1)) rfl rfl rfl (fun v85 hw84 => x_load1 T.na9 rfl ((((hc83.below hE76).elem enE_len (i := i) (by omega)).fld 0 rfl).ext hw84)) ?_
      refine d_q (v := .slice an ((nodesL [] es).length) cn) rfl rfl (fun _ => x_move rfl) ?_
      refine d_q (v := .slice b es.length cb) rfl rfl (fun _ => x_move rfl) ?_
      refine d_q (v := .int .i64 ((i : Nat) : Int)) rfl rfl (fun _ => x_move rfl) ?_
      refine d_q (v := .pointer (some ⟨b80, o81 + i * 3, none⟩)) rfl rfl (fun _ => x_index' T.sl23 rfl ha82 rfl (by omega)) ?_
      refine d_q (v := .pointer (some ⟨b80, o81 + i * 3 + 1, none⟩)) rfl rfl (fun _ => x_field (o := o81 + i * 3) T.fa47_1 rfl) ?_
      refine d_l (v := .string ((el es i).2.1)) rfl rfl rfl (fun v87 hw86 => x_load1 T.na9 rfl ((((hc83.below hE76).elem enE_len (i := i) (by omega)).fld 1 rfl).ext hw86)) ?_
      refine d_e (by decide) (d_c' rfl rfl (t_call [.slice an ((nodesL [] es).length) cn, .slice b es.length cb, .string ((el es i).1)] T.cf47 rfl rfl) (far47 (nodesL [] es) es (el es i).1 _ _ _ hF74.src (hb.below hE76) hends hm1 (by omega)) ?_)
      rintro _ w88 ⟨v90, F, rfl, hx89, hD, hFr, hO91⟩
      refine ⟨_, rfl, ?_⟩
      have hF92 := hF74.ext hx89
      have hF93 := hx89.e hF75 (Nat.le_refl _)
      have hE94 : Below w0.heap.size w0 w88 := hx89.e hE76 (Nat.le_refl _)
      have hz95 := hE94.le
      have hs96 := hx89.size
      have hS97 := hS79.trans (hx89.mono hS79.size)
      refine ⟨fun _ => hS97, ?_⟩
      have hFl := hD.len
      obtain ⟨af98, cf99, rfl, _, _⟩ := hO91.src.form
      refine d_e (by decide) (d_c' rfl rfl (t_call [.slice an ((nodesL [] es).length) cn, .string ((el es i).2.1)] T.cf44 rfl rfl) (place44 (nodesL [] es) (el es i).2.1 _ _ hF92.src) ?_)
      rintro _ w100 ⟨e102, hx101⟩
      rw [pl_ix hm2] at e102
      subst e102
      refine ⟨_, rfl, ?_⟩
      have hF103 := hF92.ext hx101
      have hF104 := hx101.e hF93 (Nat.le_refl _)
      have hF105 := hO91.ext hx101
      have hE106 : Below w0.heap.size w0 w100 := hx101.e hE94 (Nat.le_refl _)
      have hz107 := hE106.le
      have hs108 := hx101.size
      have hS109 := hS97.trans (hx101.mono hS97.size)
      refine ⟨fun _ => hS109, ?_⟩
      obtain ⟨b110, o111, ha112, hc113⟩ := hF105.src.at (by omega)
      refine d_q (v := .pointer (some ⟨b110, o111 + ((ixS (nodesL [] es) (el es i).2.1)) * 1, none⟩)) rfl rfl (fun _ => x_index' T.sl38 rfl ha112 rfl (by omega)) ?_
      refine d_e (by decide) (d_e' rfl rfl (eff_ex (x_load1 T.na3 rfl (hc113.elem enI_len (i := (ixS (nodesL [] es) (el es i).2.1)) (by omega))) ?_))
      have hS114 := hS109
      refine ⟨fun _ => hS114, ?_⟩
      refine d_q (v := .int .i64 ((el F ((ixS (nodesL [] es) (el es i).2.1))))) rfl rfl (fun _ => x_assign rfl) ?_
      refine d_done ?_
      refine kn68 _ _ ?_
      refine seqK fun Q115 kn116 kr117 ke118 => ?_
      refine region ?_
      refine st_q (v := .slice b es.length cb) (x_move rfl) ?_
      refine st_q (v := .int .i64 ((i : Nat) : Int)) (x_move rfl) ?_
      refine st_q (v := .pointer (some ⟨b80, o81 + i * 3, none⟩)) (x_index' T.sl23 rfl ha82 rfl (by omega)) ?_
      refine st_q (v := .pointer (some ⟨b80, o81 + i * 3 + 2, none⟩)) (x_field (o := o81 + i * 3) T.fa47_2 rfl) ?_
      refine st_q (v := .bool ((el es i).2.2)) (x_load1 T.na4 rfl (((hc83.below hE106).elem enE_len (i := i) (by omega)).fld 2 rfl)) ?_
      refine st_if (p := (el es i).2.2 = true) (x_moveBB rfl) (fun h119 => ?_) (fun h119 => ?_)
      ·
        refine st_gq 5 44 rfl rfl (by decide) ?_
        refine st_q (v := .int .i64 ((el F ((ixS (nodesL [] es) (el es i).2.1))))) (x_move rfl) ?_
        refine st_gq 5 44 rfl rfl (by decide) ?_
        refine st_q (v := .bool (decide (0 ≤ ((el F ((ixS (nodesL [] es) (el es i).2.1))))))) (x_geq rfl rfl) ?_
        refine st_q (v := .bool (decide (0 ≤ ((el F ((ixS (nodesL [] es) (el es i).2.1))))))) (x_pickT rfl rfl) ?_
        refine st_if (p := 0 ≤ ((el F ((ixS (nodesL [] es) (el es i).2.1))))) (x_move rfl) (fun h120 => ?_) (fun h120 => ?_)
        ·
          refine st_gq 9 48 rfl rfl (by decide) ?_
          refine st_q (v := .int .i64 best) (x_move rfl) ?_
          refine st_gq 9 48 rfl rfl (by decide) ?_
          refine st_q (v := .bool (decide (best < 0))) (x_lss rfl rfl) ?_
          refine st_gq 9 48 rfl rfl (by decide) ?_
          refine st_if (p := best < 0) (x_move rfl) (fun h121 => ?_) (fun h121 => ?_)
          ·
            refine st_gn 12 51 rfl rfl (by decide) rfl ?_
            refine st_gn 12 51 rfl rfl (by decide) rfl ?_
            refine st_gn 12 51 rfl rfl (by decide) rfl ?_
            refine st_gq 9 48 rfl rfl (by decide) ?_
            refine st_q (v := .bool true) (x_pickT rfl rfl) ?_
            refine st_q (v := .bool true) (x_pickT rfl rfl) ?_
            refine st_nil ?_
            refine kn116 _ _ ?_
            refine cndT rfl ?_
            refine region ?_
            refine st_q (v := .int .i64 ((i : Nat) : Int)) (x_move rfl) ?_
            refine st_q (v := .int .i64 ((el F ((ixS (nodesL [] es) (el es i).2.1))))) (x_move rfl) ?_
            refine st_q (v := .int .i64 ((i : Nat) : Int)) (x_assign rfl) ?_
            refine st_q (v := .int .i64 ((el F ((ixS (nodesL [] es) (el es i).2.1))))) (x_assign rfl) ?_
            refine st_nil ?_
            refine kn63 _ _ ?_
            refine kn59 _ _ ?_
            refine region ?_
            refine st_q (v := .int .i64 ((i : Nat) : Int)) (x_move rfl) ?_
            refine st_q (v := .int .i64 (((i + 1) : Nat) : Int)) (x_addN rfl rfl (by omega)) ?_
            refine st_q (v := .int .i64 (((i + 1) : Nat) : Int)) (x_assign rfl) ?_
            refine st_nil ?_
            refine kn46 _ ((i + 1), ((i : Nat) : Int), (el F ((ixS (nodesL [] es) (el es i).2.1)))) _ ⟨rfl, rfl, rfl, rfl, rfl, trivial⟩ ⟨hF104, ?_⟩ ?_
            ·
              try dsimp only
              rcases hD.back hi2 with ⟨h1, _⟩ | ⟨d0, hd0, hbd⟩
              · exfalso; have h2 : el F (ixS (nodesL [] es) (el es i).2.1) = -1 := h1; omega
              · have hd1 : el F (ixS (nodesL [] es) (el es i).2.1) = (d0 : Int) := hd0
                rw [hd1]
                exact ⟨by omega, hC.better (by assumption) hbd (by first | exact .inl (by assumption) | exact .inr (by rw [← hd1]; assumption))⟩
            ·
              (try dsimp only); omega
          ·
            refine st_gq 12 51 rfl rfl (by decide) ?_
            refine st_q (v := .int .i64 ((el F ((ixS (nodesL [] es) (el es i).2.1))))) (x_move rfl) ?_
            refine st_gq 12 51 rfl rfl (by decide) ?_
            refine st_q (v := .int .i64 least) (x_move rfl) ?_
            refine st_gq 12 51 rfl rfl (by decide) ?_
            refine st_q (v := .bool (decide (((el F ((ixS (nodesL [] es) (el es i).2.1)))) < least))) (x_lss rfl rfl) ?_
            refine st_gq 9 48 rfl rfl (by decide) ?_
            refine st_q (v := .bool (decide (((el F ((ixS (nodesL [] es) (el es i).2.1)))) < least))) (x_pickF rfl rfl) ?_
            refine st_q (v := .bool (decide (((el F ((ixS (nodesL [] es) (el es i).2.1)))) < least))) (x_pickT rfl rfl) ?_
            refine st_nil ?_
            refine kn116 _ _ ?_
            refine cnd (p := ((el F ((ixS (nodesL [] es) (el es i).2.1)))) < least) rfl (fun h122 => ?_) (fun h122 => ?_)
            ·
              refine region ?_
              refine st_q (v := .int .i64 ((i : Nat) : Int)) (x_move rfl) ?_
              refine st_q (v := .int .i64 ((el F ((ixS (nodesL [] es) (el es i).2.1))))) (x_move rfl) ?_
              refine st_q (v := .int .i64 ((i : Nat) : Int)) (x_assign rfl) ?_
              refine st_q (v := .int .i64 ((el F ((ixS (nodesL [] es) (el es i).2.1))))) (x_assign rfl) ?_
              refine st_nil ?_
              refine kn63 _ _ ?_
              refine kn59 _ _ ?_
              refine region ?_
              refine st_q (v := .int .i64 ((i : Nat) : Int)) (x_move rfl) ?_
              refine st_q (v := .int .i64 (((i + 1) : Nat) : Int)) (x_addN rfl rfl (by omega)) ?_
              refine st_q (v := .int .i64 (((i + 1) : Nat) : Int)) (x_assign rfl) ?_
              refine st_nil ?_
              refine kn46 _ ((i + 1), ((i : Nat) : Int), (el F ((ixS (nodesL [] es) (el es i).2.1)))) _ ⟨rfl, rfl, rfl, rfl, rfl, trivial⟩ ⟨hF104, ?_⟩ ?_
              ·
                try dsimp only
                rcases hD.back hi2 with ⟨h1, _⟩ | ⟨d0, hd0, hbd⟩
                · exfalso; have h2 : el F (ixS (nodesL [] es) (el es i).2.1) = -1 := h1; omega
                · have hd1 : el F (ixS (nodesL [] es) (el es i).2.1) = (d0 : Int) := hd0
                  rw [hd1]
                  exact ⟨by omega, hC.better (by assumption) hbd (by first | exact .inl (by assumption) | exact .inr (by rw [← hd1]; assumption))⟩
              ·
                (try dsimp only); omega
            ·
              refine skip ?_
              refine kn63 _ _ ?_
              refine kn59 _ _ ?_
              refine region ?_
              refine st_q (v := .int .i64 ((i : Nat) : Int)) (x_move rfl) ?_
              refine st_q (v := .int .i64 (((i + 1) : Nat) : Int)) (x_addN rfl rfl (by omega)) ?_
              refine st_q (v := .int .i64 (((i + 1) : Nat) : Int)) (x_assign rfl) ?_
              refine st_nil ?_
              refine kn46 _ ((i + 1), best, least) _ ⟨rfl, rfl, rfl, rfl, rfl, trivial⟩ ⟨hF104, ?_⟩ ?_
              ·
                try dsimp only
                rcases hD.back hi2 with ⟨_, hnb⟩ | ⟨d0, hd0, hbd⟩
                · exact ⟨by omega, hC.skip fun _ => hnb⟩
                · have hd1 : el F (ixS (nodesL [] es) (el es i).2.1) = (d0 : Int) := hd0
                  first | (exfalso; omega) | exact ⟨by omega, hC.worse (by assumption) hbd (by omega)⟩
              ·
                (try dsimp only); omega
        ·
          refine st_gn 9 48 rfl rfl (by decide) rfl ?_
          refine st_gn 9 48 rfl rfl (by decide) rfl ?_
          refine st_gn 9 48 rfl rfl (by decide) rfl ?_
          refine st_gu 12 51 rfl rfl (by decide) ?_
          refine st_gu 12 51 rfl rfl (by decide) ?_
          refine st_gu 12 51 rfl rfl (by decide) ?_
          refine st_gn 9 48 rfl rfl (by decide) rfl ?_
          refine st_q (v := .bool false) (x_pickF rfl rfl) ?_
          refine st_nil ?_
          refine kn116 _ _ ?_
          refine cndF rfl ?_
          refine skip ?_
          refine kn63 _ _ ?_
          refine kn59 _ _ ?_
          refine region ?_
          refine st_q (v := .int .i64 ((i : Nat) : Int)) (x_move rfl) ?_
          refine st_q (v := .int .i64 (((i + 1) : Nat) : Int)) (x_addN rfl rfl (by omega)) ?_
          refine st_q (v := .int .i64 (((i + 1) : Nat) : Int)) (x_assign rfl) ?_
          refine st_nil ?_
          refine kn46 _ ((i + 1), best, least) _ ⟨rfl, rfl, rfl, rfl, rfl, trivial⟩ ⟨hF104, ?_⟩ ?_
          ·
            try dsimp only
            rcases hD.back hi2 with ⟨_, hnb⟩ | ⟨d0, hd0, hbd⟩
            · exact ⟨by omega, hC.skip fun _ => hnb⟩
            · have hd1 : el F (ixS (nodesL [] es) (el es i).2.1) = (d0 : Int) := hd0
              first | (exfalso; omega) | exact ⟨by omega, hC.worse (by assumption) hbd (by omega)⟩
          ·
            (try dsimp only); omega
      ·
        refine st_gn 5 44 rfl rfl (by decide) rfl ?_
        refine st_gn 5 44 rfl rfl (by decide) rfl ?_
        refine st_q (v := .bool false) (x_pickF rfl rfl) ?_
        refine st_q (v := .bool false) (x_move rfl) ?_
        refine st_gn 9 48 rfl rfl (by decide) rfl ?_
        refine st_gn 9 48 rfl rfl (by decide) rfl ?_
        refine st_gn 9 48 rfl rfl (by decide) rfl ?_
        refine st_gu 12 51 rfl rfl (by decide) ?_
        refine st_gu 12 51 rfl rfl (by decide) ?_
        refine st_gu 12 51 rfl rfl (by decide) ?_
        refine st_gn 9 48 rfl rfl (by decide) rfl ?_
        refine st_q (v := .bool false) (x_pickF rfl rfl) ?_
        refine st_nil ?_
        refine kn116 _ _ ?_
        refine cndF rfl ?_
        refine skip ?_
        refine kn63 _ _ ?_
        refine kn59 _ _ ?_
        refine region ?_
        refine st_q (v := .int .i64 ((i : Nat) : Int)) (x_move rfl) ?_
        refine st_q (v := .int .i64 (((i + 1) : Nat) : Int)) (x_addN rfl rfl (by omega)) ?_
        refine st_q (v := .int .i64 (((i + 1) : Nat) : Int)) (x_assign rfl) ?_
        refine st_nil ?_
        refine kn46 _ ((i + 1), best, least) _ ⟨rfl, rfl, rfl, rfl, rfl, trivial⟩ ⟨hF104, ?_⟩ ?_
        ·
          try dsimp only
          exact ⟨by omega, hC.skip (fun hn => absurd hn (by assumption))⟩
        ·
          (try dsimp only); omega
    ·
      refine exit ?_
      refine ke52 _ _ _ ?_
      refine ke48 _ _ _ ?_
      refine kb36 _ _ ?_
      refine kn25 _ _ ?_
      refine seqK fun Q123 kn124 kr125 ke126 => ?_
      refine seqK fun Q127 kn128 kr129 ke130 => ?_
      refine region ?_
      refine st_q (v := .int .i64 best) (x_move rfl) ?_
      refine st_q (v := .bool (decide (best < 0))) (x_lss rfl rfl) ?_
      refine st_nil ?_
      refine kn128 _ _ ?_
      refine cnd (p := best < 0) rfl (fun h131 => ?_) (fun h131 => ?_)
      ·
        refine seqK fun Q132 kn133 kr134 ke135 => ?_
        refine region ?_
        refine st_q (v := .slice none 0 0) (x_assign rfl) ?_
        refine st_q (v := .bool false) (x_assign rfl) ?_
        refine st_nil ?_
        refine kn133 _ _ ?_
        refine ret ?_
        refine kr125 _ _ ?_
        refine leave2 (P := Try.prog) (fn := Try.f19) (t := 2) (u := 3) (v := .slice none 0 0) (v' := .bool false) rfl rfl rfl ?_
        refine ⟨_, [], false, rfl, hE42, .inl ⟨rfl, rfl, ?_⟩, Own.nil _ _ _ _⟩
        obtain rfl : i = es.length := by omega
        rcases hC with ⟨_, _, h⟩ | ⟨b, d, h1, _⟩
        · exact h
        · omega
      ·
        obtain ⟨kb, kd, hbe, hle, hBU⟩ : ∃ b d : Nat, best = (b : Int) ∧ least = (d : Int) ∧ BestU (nodesL [] es) es i b d := by
          rcases hC with ⟨h1, _⟩ | h
          · omega
          · exact h
        subst hbe
        subst hle
        obtain rfl : i = es.length := by omega
        have hkl := hBU.lt
        have hkb1 := (hends kb hkl).1
        have hkb2 := (hends kb hkl).2
        refine skip ?_
        refine kn124 _ _ ?_
        refine seqK fun Q136 kn137 kr138 ke139 => ?_
        refine region ?_
        refine st_q (v := .int .i64 ((kb : Nat) : Int)) (x_move rfl) ?_
        refine st_e (e_buildSlice (cs := [.int .i64 ((kb : Nat) : Int)]) (e := 3) (fun _ => by kernel_rfl) ?_)
        intro w140 hA141
        have hx142 := hA141.ext
        have hs143 := hA141.size
        have hB144 : Blk w140.heap w39.heap.size [.int .i64 ((kb : Nat) : Int)] 3 := hA141.new
        have hF145 := hF41.ext hx142
        have hF146 := hx142.e hx40 (Nat.le_refl _)
        have hE147 : Below w0.heap.size w0 w140 := hx142.e hE42 (Nat.le_refl _)
        have hz148 := hE147.le
        have hs149 := hx142.size
        refine st_q (v := .slice ((some ⟨w39.heap.size, 0, none⟩)) 1 1) (x_assign rfl) ?_
        refine st_nil ?_
        refine kn137 _ _ ?_
        refine seqK fun Q150 kn151 kr152 ke153 => ?_
        refine region ?_
        refine st_q (v := .slice an ((nodesL [] es).length) cn) (x_move rfl) ?_
        refine st_q (v := .slice b es.length cb) (x_move rfl) ?_
        refine st_q (v := .slice b es.length cb) (x_move rfl) ?_
        refine st_q (v := .int .i64 ((kb : Nat) : Int)) (x_move rfl) ?_
        obtain ⟨b154, o155, ha156, hc157⟩ := hb.at (by omega)
        refine st_q (v := .pointer (some ⟨b154, o155 + kb * 3, none⟩)) (x_index' T.sl23 rfl ha156 rfl (by omega)) ?_
        refine st_q (v := .pointer (some ⟨b154, o155 + kb * 3, none⟩)) (x_field (o := o155 + kb * 3) T.fa47_0 rfl) ?_
        refine st_q (v := .string ((el es kb).1)) (x_load1 T.na9 rfl (((hc157.below hE147).elem enE_len (i := kb) (by omega)).fld 0 rfl)) ?_
        refine st_c (t_call [.slice an ((nodesL [] es).length) cn, .slice b es.length cb, .string ((el es kb).1)] T.cf47 rfl rfl) (far47 (nodesL [] es) es (el es kb).1 _ _ _ hF145.src (hb.below hE147) hends hkb1 (by omega)) ?_
        rintro _ w158 ⟨v160, F, rfl, hx159, hD, hFr, hO161⟩
        refine ⟨_, rfl, ?_⟩
        have hB162 := hB144.ext hx159
        have hF163 := hF145.ext hx159
        have hF164 := hx159.e hF146 (Nat.le_refl _)
        have hE165 : Below w0.heap.size w0 w158 := hx159.e hE147 (Nat.le_refl _)
        have hz166 := hE165.le
        have hs167 := hx159.size
        have hFl := hD.len
        obtain ⟨af168, cf169, rfl, _, _⟩ := hO161.src.form
        refine st_q (v := .slice af168 ((nodesL [] es).length) cf169) (x_assign rfl) ?_
        refine st_nil ?_
        refine kn151 _ _ ?_
        refine seqK fun Q170 kn171 kr172 ke173 => ?_
        refine region ?_
        refine st_q (v := .slice b es.length cb) (x_move rfl) ?_
        refine st_q (v := .int .i64 ((kb : Nat) : Int)) (x_move rfl) ?_
        refine st_q (v := .pointer (some ⟨b154, o155 + kb * 3, none⟩)) (x_index' T.sl23 rfl ha156 rfl (by omega)) ?_
        refine st_q (v := .pointer (some ⟨b154, o155 + kb * 3 + 1, none⟩)) (x_field (o := o155 + kb * 3) T.fa47_1 rfl) ?_
        refine st_q (v := .string ((el es kb).2.1)) (x_load1 T.na9 rfl (((hc157.below hE165).elem enE_len (i := kb) (by omega)).fld 1 rfl)) ?_
        refine st_q (v := .string ((el es kb).2.1)) (x_assign rfl) ?_
        refine st_nil ?_
        refine kn171 _ _ ?_
        refine seqK fun Q174 kn175 kr176 ke177 => ?_
        refine seqK fun Q178 kn179 kr180 ke181 => ?_
        refine region ?_
        refine st_q (v := .int .i64 ((kd : Nat) : Int)) (x_move rfl) ?_
        refine st_q (v := .int .i64 ((kd : Nat) : Int)) (x_assign rfl) ?_
        refine st_nil ?_
        refine kn179 _ _ ?_
        refine blockK fun Q182 kn183 kr184 kx185 kb186 => ?_
        refine loopK (α := Nat × ByteArray × (List Nat) × Value) (fun x => [(0, .slice b es.length cb), (4, .slice an ((nodesL [] es).length) cn), (9, x.2.2.2), (10, .slice af168 ((nodesL [] es).length) cf169), (11, .string x.2.1), (12, .int .i64 ((x.1 : Nat) : Int))]) (fun x w187 => Below w0.heap.size w0 w187 ∧ (x.2.2.1.length + x.1 ≤ (nodesL [] es).length + 1 ∧ x.2.1 ∈ (nodesL [] es) ∧ el F (ixS (nodesL [] es) x.2.1) = ((x.1 : Nat) : Int) ∧ PI (nodesL [] es) es F (tgt (nodesL [] es) es kb) (ixS (nodesL [] es) x.2.1) x.2.2.1 ∧ Own w187.heap w0.heap.size 3 1 x.2.2.2 (x.2.2.1.length + 1) (flat enN (kb :: x.2.2.1)) ∧ (∀ z, x.2.2.2.ownBlock = some z → (Value.slice af168 (nodesL [] es).length cf169).ownBlock ≠ some z)) ∧ Own w187.heap w0.heap.size 9 1 (.slice an (nodesL [] es).length cn) (nodesL [] es).length (flat enS (nodesL [] es)) ∧ Own w187.heap w140.heap.size 3 1 (.slice af168 (nodesL [] es).length cf169) (nodesL [] es).length (flat enI F)) (fun x => x.1) (kd, (el es kb).2.1, [], .slice ((some ⟨w39.heap.size, 0, none⟩)) 1 1) ⟨rfl, rfl, rfl, rfl, rfl, rfl, trivial⟩ ?_ ?_
        ·
          refine ⟨hE165, ?_⟩
          try dsimp only
          refine ⟨?_, hF163, hO161⟩
          rcases hD.back (ixS_lt hkb2) with ⟨h1, h2⟩ | ⟨d0, hd0, hbd⟩
          · exact absurd hBU.dst (h2 _)
          · have hdd := hbd.uniq hBU.dst
            have hfr := hFr _ (ixS_lt hkb2)
            have hd1 : el F (ixS (nodesL [] es) (el es kb).2.1) = (d0 : Int) := hd0
            have hok := (Blk.own1 (k := 1) (m := 1) hB162 rfl (by omega)).weak (show w0.heap.size ≤ _ by omega)
            exact ⟨by simp only [List.length_nil]; omega, hkb2, by rw [hd1, hdd], PI.start (ixS_lt hkb2) (by omega), hok, fun z h1 h2 => by have h3 := (hO161.lt h2).1; have h4 : w39.heap.size = z := Option.some.inj h1; omega⟩
        ·
          rintro τ188 ⟨n, at_, pre, v3⟩ w189 ⟨hx192, ⟨⟨hpl, hat, hatF, hPI, hR, hap⟩, hC190, hC191⟩⟩
          try dsimp only at hpl hat hatF hPI hR hap hC190 hC191
          have hz193 := hx192.le
          intro Q194 kn195 kr196 ke197
          obtain ⟨a198, c199, rfl, hm200, hm201⟩ := hR.src.form
          have hatn := ixS_lt hat
          have hplen := hpl
          refine seqK fun Q202 kn203 kr204 ke205 => ?_
          refine seqK fun Q206 kn207 kr208 ke209 => ?_
          refine region ?_
          refine st_q (v := .int .i64 ((n : Nat) : Int)) (x_move rfl) ?_
          refine st_q (v := .bool (decide (0 < n))) (x_gtrN rfl rfl) ?_
          refine st_nil ?_
          refine kn207 _ _ ?_
          refine cnd (p := 0 < n) rfl (fun h210 => ?_) (fun h210 => ?_)
          ·
            refine skip ?_
            refine kn203 _ _ ?_
            refine seqK fun Q211 kn212 kr213 ke214 => ?_
            refine blockK fun Q215 kn216 kr217 kx218 kb219 => ?_
            refine seqK fun Q220 kn221 kr222 ke223 => ?_
            refine region ?_
            have hpos : 0 < el F (ixS (nodesL [] es) at_) := by omega
            refine st_q (v := .int .i64 ((0 : Nat) : Int)) (x_assign rfl) ?_
            refine st_nil ?_
            refine kn221 _ _ ?_
            refine blockK fun Q224 kn225 kr226 kx227 kb228 => ?_
            refine loopK (α := Nat) (fun x => [(0, .slice b es.length cb), (4, .slice an ((nodesL [] es).length) cn), (9, .slice a198 ((pre.length + 1)) c199), (10, .slice af168 ((nodesL [] es).length) cf169), (11, .string at_), (12, .int .i64 ((n : Nat) : Int)), (13, .int .i64 ((x : Nat) : Int))]) (fun x w229 => Ext w189 w229 ∧ x ≤ es.length ∧ ∀ z, z < x → tF (nodesL [] es) es z = (ixS (nodesL [] es) at_) → el F (tgt (nodesL [] es) es z) ≠ el F (ixS (nodesL [] es) at_) - 1) (fun x => es.length - x) (0) ⟨rfl, rfl, rfl, rfl, rfl, rfl, rfl, trivial⟩ ?_ ?_
            ·
              refine ⟨Below.refl _ _, ?_⟩
              try dsimp only
              exact ⟨Nat.zero_le _, fun x hx => by omega⟩
            ·
              rintro τ230 i4 w231 ⟨hx232, ⟨hi4, hJ⟩⟩
              try dsimp only at hi4 hJ
              have hF233 := hC190.ext hx232
              have hF234 := hC191.ext hx232
              have hF235 := hR.ext hx232
              have hE236 : Below w0.heap.size w0 w231 := hx232.e hx192 (Nat.le_refl _)
              have hz237 := hE236.le
              have hs238 := hx232.size
              intro Q239 kn240 kr241 ke242
              refine seqK fun Q243 kn244 kr245 ke246 => ?_
              refine seqK fun Q247 kn248 kr249 ke250 => ?_
              refine region ?_
              refine st_q (v := .int .i64 ((i4 : Nat) : Int)) (x_move rfl) ?_
              refine st_q (v := .slice b es.length cb) (x_move rfl) ?_
              refine st_q (v := .int .i64 ((es.length : Nat) : Int)) (x_lenSl rfl Try.underlying23 rfl) ?_
              refine st_q (v := .bool (decide (i4 < es.length))) (x_lssN rfl rfl) ?_
              refine st_nil ?_
              refine kn248 _ _ ?_
              refine cnd (p := i4 < es.length) rfl (fun h251 => ?_) (fun h251 => ?_)
              ·
                refine skip ?_
                refine kn244 _ _ ?_
                refine seqK fun Q252 kn253 kr254 ke255 => ?_
                refine blockK fun Q256 kn257 kr258 kx259 kb260 => ?_
                refine seqK fun Q261 kn262 kr263 ke264 => ?_
                refine region ?_
                have hi4t := ixS_lt (hends i4 (by omega)).2
                refine st_q (v := .slice b es.length cb) (x_move rfl) ?_
                refine st_q (v := .int .i64 ((i4 : Nat) : Int)) (x_move rfl) ?_
                refine st_q (v := .pointer (some ⟨b154, o155 + i4 * 3, none⟩)) (x_index' T.sl23 rfl ha156 rfl (by omega)) ?_
                refine st_q (v := .pointer (some ⟨b154, o155 + i4 * 3, none⟩)) (x_field (o := o155 + i4 * 3) T.fa47_0 rfl) ?_
                refine st_q (v := .string ((el es i4).1)) (x_load1 T.na9 rfl (((hc157.below hE236).elem enE_len (i := i4) (by omega)).fld 0 rfl)) ?_
                refine st_q (v := .string at_) (x_move rfl) ?_
                refine st_q (v := .bool (decide (((el es i4).1).toList = at_.toList))) (x_eqlS rfl rfl) ?_
                refine st_if (p := ((el es i4).1).toList = at_.toList) (x_move rfl) (fun h265 => ?_) (fun h265 => ?_)
                ·
                  refine st_gq 7 94 rfl rfl (by decide) ?_
                  refine st_q (v := .slice af168 ((nodesL [] es).length) cf169) (x_move rfl) ?_
                  refine st_gq 7 94 rfl rfl (by decide) ?_
                  refine st_q (v := .slice an ((nodesL [] es).length) cn) (x_move rfl) ?_
                  refine st_gq 7 94 rfl rfl (by decide) ?_
                  refine st_q (v := .slice b es.length cb) (x_move rfl) ?_
                  refine st_gq 7 94 rfl rfl (by decide) ?_
                  refine st_q (v := .int .i64 ((i4 : Nat) : Int)) (x_move rfl) ?_
                  refine st_gq 7 94 rfl rfl (by decide) ?_
                  refine st_q (v := .pointer (some ⟨b154, o155 + i4 * 3, none⟩)) (x_index' T.sl23 rfl ha156 rfl (by omega)) ?_
                  refine st_gq 7 94 rfl rfl (by decide) ?_
                  refine st_q (v := .pointer (some ⟨b154, o155 + i4 * 3 + 1, none⟩)) (x_field (o := o155 + i4 * 3) T.fa47_1 rfl) ?_
                  refine st_gq 7 94 rfl rfl (by decide) ?_
                  refine st_q (v := .string ((el es i4).2.1)) (x_load1 T.na9 rfl (((hc157.below hE236).elem enE_len (i := i4) (by omega)).fld 1 rfl)) ?_
                  refine st_gq 7 94 rfl rfl (by decide) ?_
                  refine st_c (t_call [.slice an ((nodesL [] es).length) cn, .string ((el es i4).2.1)] T.cf44 rfl rfl) (place44 (nodesL [] es) (el es i4).2.1 _ _ hF233.src) ?_
                  rintro _ w266 ⟨e268, hx267⟩
                  rw [pl_ix (hends i4 (by omega)).2] at e268
                  subst e268
                  refine ⟨_, rfl, ?_⟩
                  have hF269 := hF233.ext hx267
                  have hF270 := hF234.ext hx267
                  have hF271 := hF235.ext hx267
                  have hF272 := hx267.e hx232 (Nat.le_refl _)
                  have hE273 : Below w0.heap.size w0 w266 := hx267.e hE236 (Nat.le_refl _)
                  have hz274 := hE273.le
                  have hs275 := hx267.size
                  refine st_gq 7 94 rfl rfl (by decide) ?_
                  obtain ⟨b276, o277, ha278, hc279⟩ := hF270.src.at (by omega)
                  refine st_q (v := .pointer (some ⟨b276, o277 + ((ixS (nodesL [] es) (el es i4).2.1)) * 1, none⟩)) (x_index' T.sl38 rfl ha278 rfl (by first | omega | (have := ixS_lt (hends i4 (by omega)).2; omega))) ?_
                  refine st_gq 7 94 rfl rfl (by decide) ?_
                  refine st_q (v := .int .i64 ((el F ((ixS (nodesL [] es) (el es i4).2.1))))) (x_load1 T.na3 rfl (hc279.elem enI_len (i := (ixS (nodesL [] es) (el es i4).2.1)) (by omega))) ?_
                  refine st_gq 7 94 rfl rfl (by decide) ?_
                  refine st_q (v := .int .i64 ((n : Nat) : Int)) (x_move rfl) ?_
                  refine st_gq 7 94 rfl rfl (by decide) ?_
                  refine st_q (v := .int .i64 (((n - 1) : Nat) : Int)) (x_subN rfl rfl (by omega) (by omega)) ?_
                  refine st_gq 7 94 rfl rfl (by decide) ?_
                  refine st_q (v := .bool (decide (((el F ((ixS (nodesL [] es) (el es i4).2.1)))) = ((((n - 1) : Nat) : Int))))) (x_eql rfl rfl) ?_
                  refine st_q (v := .bool (decide (((el F ((ixS (nodesL [] es) (el es i4).2.1)))) = ((((n - 1) : Nat) : Int))))) (x_pickT rfl rfl) ?_
                  refine st_nil ?_
                  refine kn262 _ _ ?_
                  refine cnd (p := ((el F ((ixS (nodesL [] es) (el es i4).2.1)))) = ((((n - 1) : Nat) : Int))) rfl (fun h280 => ?_) (fun h280 => ?_)
                  ·
                    refine seqK fun Q281 kn282 kr283 ke284 => ?_
                    refine region ?_
                    refine st_q (v := .slice a198 ((pre.length + 1)) c199) (x_move rfl) ?_
                    refine st_q (v := .int .i64 ((i4 : Nat) : Int)) (x_move rfl) ?_
                    refine st_e (e_buildSlice (cs := [.int .i64 ((i4 : Nat) : Int)]) (e := 3) (fun _ => by kernel_rfl) ?_)
                    intro w285 hA286
                    have hx287 := hA286.ext
                    have hs288 := hA286.size
                    have hB289 : Blk w285.heap w266.heap.size [.int .i64 ((i4 : Nat) : Int)] 3 := hA286.new
                    have hF290 := hF269.ext hx287
                    have hF291 := hF270.ext hx287
                    have hF292 := hF271.ext hx287
                    have hF293 := hx287.e hF272 (Nat.le_refl _)
                    have hF294 := hc279.ext hx287
                    have hE295 : Below w0.heap.size w0 w285 := hx287.e hE273 (Nat.le_refl _)
                    have hz296 := hE295.le
                    have hs297 := hx287.size
                    refine st_e (e_appendX T.sl38 rfl rfl hF292 (hB289.src1 (k := 1) (m := 1) rfl (by omega)) (ones (by rfl)) (by omega) (by decide) (by omega) ?_)
                    intro v298 w299 hO300 hG301 hN302 hW303
                    have hF304 := hF290.gk (hG301) (hF292.rowk) (by decide)
                    have hF305 := hF291.grown hG301 (fun z hz e => hap z e hz)
                    have hE308 : Below w0.heap.size w0 w299 := grown_below hG301 hE295 (Nat.le_refl _) (fun b hb => (by have := (hF292.lt hb).1; clear hb; omega))
                    have hz309 := hE308.le
                    have hs310 := hG301.size
                    have hO311 := Own.snoc (enc := enN) (u := i4) hO300
                    obtain ⟨a312, c313, rfl, hm314, hm315⟩ := hO311.src.form
                    have hap316 : ∀ z, (.slice a312 (((pre.length + 1) + 1)) c313 : Value).ownBlock = some z → (Value.slice af168 (nodesL [] es).length cf169).ownBlock ≠ some z := Where.apart hW303 hap hF291
                    refine st_q (v := .slice a312 (((pre.length + 1) + 1)) c313) (x_assign rfl) ?_
                    refine st_nil ?_
                    refine kn282 _ _ ?_
                    refine seqK fun Q317 kn318 kr319 ke320 => ?_
                    refine region ?_
                    refine st_q (v := .slice b es.length cb) (x_move rfl) ?_
                    refine st_q (v := .int .i64 ((i4 : Nat) : Int)) (x_move rfl) ?_
                    refine st_q (v := .pointer (some ⟨b154, o155 + i4 * 3, none⟩)) (x_index' T.sl23 rfl ha156 rfl (by omega)) ?_
                    refine st_q (v := .pointer (some ⟨b154, o155 + i4 * 3 + 1, none⟩)) (x_field (o := o155 + i4 * 3) T.fa47_1 rfl) ?_
                    refine st_q (v := .string ((el es i4).2.1)) (x_load1 T.na9 rfl (((hc157.below hE308).elem enE_len (i := i4) (by omega)).fld 1 rfl)) ?_
                    refine st_q (v := .string ((el es i4).2.1)) (x_assign rfl) ?_
                    refine st_nil ?_
                    refine kn318 _ _ ?_
                    refine exit ?_
                    refine kx259 _ _ _ rfl ?_
                    refine ke255 _ _ _ ?_
                    refine ke242 _ _ _ ?_
                    refine kb228 _ _ ?_
                    refine kn216 _ _ ?_
                    refine kn212 _ _ ?_
                    refine region ?_
                    refine st_q (v := .int .i64 ((n : Nat) : Int)) (x_move rfl) ?_
                    refine st_q (v := .int .i64 (((n - 1) : Nat) : Int)) (x_subN rfl rfl (by omega) (by omega)) ?_
                    refine st_q (v := .int .i64 (((n - 1) : Nat) : Int)) (x_assign rfl) ?_
                    refine st_nil ?_
                    refine kn195 _ ((n - 1), (el es i4).2.1, (pre ++ [i4]), .slice a312 (((pre.length + 1) + 1)) c313) _ ⟨rfl, rfl, rfl, rfl, rfl, rfl, trivial⟩ ⟨hE308, ?_⟩ ?_
                    ·
                      try dsimp only
                      refine ⟨?_, hF304, hF305⟩
                      have hf4 : tF (nodesL [] es) es i4 = (ixS (nodesL [] es) at_) := by unfold tF; rw [bytes_ext (by assumption : (el es i4).1.toList = at_.toList)]
                      have hv4 : el F (ixS (nodesL [] es) (el es i4).2.1) = (((n - 1) : Nat) : Int) := by assumption
                      have hq := hPI.stepE hends hpos (by omega) hf4 (show el F (tgt (nodesL [] es) es i4) = _ by unfold tgt; omega) hJ
                      exact ⟨by rw [List.length_append]; simp only [List.length_singleton]; omega, (hends i4 (by omega)).2, hv4, hq, by rw [List.length_append]; exact hO311, hap316⟩
                    ·
                      (try dsimp only); omega
                  ·
                    refine skip ?_
                    refine kn257 _ _ ?_
                    refine kn253 _ _ ?_
                    refine region ?_
                    refine st_q (v := .int .i64 ((i4 : Nat) : Int)) (x_move rfl) ?_
                    refine st_q (v := .int .i64 (((i4 + 1) : Nat) : Int)) (x_addN rfl rfl (by omega)) ?_
                    refine st_q (v := .int .i64 (((i4 + 1) : Nat) : Int)) (x_assign rfl) ?_
                    refine st_nil ?_
                    refine kn240 _ ((i4 + 1)) _ ⟨rfl, rfl, rfl, rfl, rfl, rfl, rfl, trivial⟩ ⟨hF272, ?_⟩ ?_
                    ·
                      try dsimp only
                      refine ⟨by omega, fun z hz hfz => ?_⟩
                      by_cases e : z = i4
                      · subst e
                        have hze : (el es z).1 = at_ := ix_inj (hends z (by omega)).1 hat hfz
                        first | exact absurd (congrArg ByteArray.toList hze) (by assumption) | (intro hc; have hc2 : el F (ixS (nodesL [] es) (el es z).2.1) = el F (ixS (nodesL [] es) at_) - 1 := hc; have hno : ¬ el F (ixS (nodesL [] es) (el es z).2.1) = (((n - 1) : Nat) : Int) := (by assumption); omega)
                      · exact hJ z (by omega) hfz
                    ·
                      (try dsimp only); omega
                ·
                  refine st_gn 7 94 rfl rfl (by decide) rfl ?_
                  refine st_gn 7 94 rfl rfl (by decide) rfl ?_
                  refine st_gn 7 94 rfl rfl (by decide) rfl ?_
                  refine st_gn 7 94 rfl rfl (by decide) rfl ?_
                  refine st_gn 7 94 rfl rfl (by decide) rfl ?_
                  refine st_gn 7 94 rfl rfl (by decide) rfl ?_
                  refine st_gn 7 94 rfl rfl (by decide) rfl ?_
                  refine st_gn 7 94 rfl rfl (by decide) rfl ?_
                  refine st_gn 7 94 rfl rfl (by decide) rfl ?_
                  refine st_gn 7 94 rfl rfl (by decide) rfl ?_
                  refine st_gn 7 94 rfl rfl (by decide) rfl ?_
                  refine st_gn 7 94 rfl rfl (by decide) rfl ?_
                  refine st_gn 7 94 rfl rfl (by decide) rfl ?_
                  refine st_q (v := .bool false) (x_pickF rfl rfl) ?_
                  refine st_nil ?_
                  refine kn262 _ _ ?_
                  refine cndF rfl ?_
                  refine skip ?_
                  refine kn257 _ _ ?_
                  refine kn253 _ _ ?_
                  refine region ?_
                  refine st_q (v := .int .i64 ((i4 : Nat) : Int)) (x_move rfl) ?_
                  refine st_q (v := .int .i64 (((i4 + 1) : Nat) : Int)) (x_addN rfl rfl (by omega)) ?_
                  refine st_q (v := .int .i64 (((i4 + 1) : Nat) : Int)) (x_assign rfl) ?_
                  refine st_nil ?_
                  refine kn240 _ ((i4 + 1)) _ ⟨rfl, rfl, rfl, rfl, rfl, rfl, rfl, trivial⟩ ⟨hx232, ?_⟩ ?_
                  ·
                    try dsimp only
                    refine ⟨by omega, fun z hz hfz => ?_⟩
                    by_cases e : z = i4
                    · subst e
                      have hze : (el es z).1 = at_ := ix_inj (hends z (by omega)).1 hat hfz
                      first | exact absurd (congrArg ByteArray.toList hze) (by assumption) | (intro hc; have hc2 : el F (ixS (nodesL [] es) (el es z).2.1) = el F (ixS (nodesL [] es) at_) - 1 := hc; have hno : ¬ el F (ixS (nodesL [] es) (el es z).2.1) = (((n - 1) : Nat) : Int) := (by assumption); omega)
                    · exact hJ z (by omega) hfz
                  ·
                    (try dsimp only); omega
              ·
                exact absurd h251 (not_not_intro (hD.more hends hatn hpos hJ))
          ·
            refine exit ?_
            refine ke205 _ _ _ ?_
            refine ke197 _ _ _ ?_
            refine kb186 _ _ ?_
            refine kn175 _ _ ?_
            refine seqK fun Q321 kn322 kr323 ke324 => ?_
            refine region ?_
            refine st_q (v := .slice a198 ((pre.length + 1)) c199) (x_move rfl) ?_
            refine st_q (v := .slice a198 ((pre.length + 1)) c199) (x_assign rfl) ?_
            refine st_q (v := .bool true) (x_assign rfl) ?_
            refine st_nil ?_
            refine kn322 _ _ ?_
            refine ret ?_
            refine leave2 (P := Try.prog) (fn := Try.f19) (t := 2) (u := 3) (v := .slice a198 ((pre.length + 1)) c199) (v' := .bool true) rfl rfl rfl ?_
            have hz0 := hD.zero hatn (by omega)
            rw [hz0] at hPI
            exact ⟨_, kb :: pre, true, rfl, hx192, .inr ⟨kb, kd, pre, rfl, rfl, hBU, F, hD, hPI.done hD (ixS_lt hkb1)⟩, hR⟩

end Go.Proofs.Ytknfjgbipfpnjaa
