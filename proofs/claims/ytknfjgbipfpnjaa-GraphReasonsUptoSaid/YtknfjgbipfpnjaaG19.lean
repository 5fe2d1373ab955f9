import Derived.Test.YtknfjgbipfpnjaaGRs
namespace Go.Proofs.Ytknfjgbipfpnjaa
open Go.RowKit Go.Eng Go.OrdPure
open Go.Knot Go.HeapPure
theorem T.cf9 : CF Try.prog 9 := fun _ _ => by kernel_rfl
theorem T.cf10 : CF Try.prog 10 := fun _ _ => by kernel_rfl
theorem T.cf30 : CF Try.prog 30 := fun _ _ => by kernel_rfl
theorem T.cf28 : CF Try.prog 28 := fun _ _ => by kernel_rfl
theorem T.cf31 : CF Try.prog 31 := fun _ _ => by kernel_rfl
theorem T.cf32 : CF Try.prog 32 := fun _ _ => by kernel_rfl
theorem T.cf33 : CF Try.prog 33 := fun _ _ => by kernel_rfl
theorem T.cf14 : CF Try.prog 14 := fun _ _ => by kernel_rfl
theorem T.cf15 : CF Try.prog 15 := fun _ _ => by kernel_rfl
theorem T.cf24 : CF Try.prog 24 := fun _ _ => by kernel_rfl
theorem T.cf27 : CF Try.prog 27 := fun _ _ => by kernel_rfl

theorem Own.src2 {h : Array Obj} {lo : Nat} {T : TypeId} {k : Nat} {a : Option Addr} {l c m : Nat} {cs : List Value} (ho : Own h lo T k (.slice a l c) m cs) : Src h (.slice a l c) m k cs := ho.src
set_option maxHeartbeats 4000000 in
theorem reasons6 (xs : List ByteArray) (es : List Edge) (va vb : Value) (w0 : World) (ha : Src w0.heap va xs.length 1 (flat enS xs)) (hb : Src w0.heap vb es.length 3 (flat enE es)) (hfx : FitS xs) (hfe : FitE es) (hn1 : xs.length + 4 * es.length + 2 ≤ 1048576) : Calls Try.prog 6 #[va, vb] w0 fun e w' => e = .returned (.bool true) ∧ Below w0.heap.size w0 w' := by
  have hE0 : Below w0.heap.size w0 w0 := Below.refl _ _
  have hz0 := hE0.le
  obtain ⟨a, ca, rfl, hca, hca1⟩ := ha.form
  obtain ⟨b, cb, rfl, hcb, hcb1⟩ := hb.form
  have hn : xs.length + 2 * es.length ≤ 2097152 := by omega
  refine enter Try.func6 rfl 137 Try.ntmps6 rfl ?_
  refine seqK fun Q1 kn2 kr3 ke4 => ?_
  refine region ?_
  refine st_q (v := .bool false) (x_assign rfl) ?_
  refine st_nil ?_
  refine kn2 _ _ ?_
  refine seqK fun Q5 kn6 kr7 ke8 => ?_
  refine region ?_
  refine st_q (v := .slice a xs.length ca) (x_move rfl) ?_
  refine st_q (v := .slice b es.length cb) (x_move rfl) ?_
  have hends : ∀ k, k < es.length → (el es k).1 ∈ (nodesL xs es) ∧ (el es k).2.1 ∈ (nodesL xs es) := fun k hk => ⟨nodesL_mem.2 (.inr ⟨_, el_memE hk, .inl rfl⟩), nodesL_mem.2 (.inr ⟨_, el_memE hk, .inr rfl⟩)⟩
  refine st_c (t_call [.slice a xs.length ca, .slice b es.length cb] T.cf16 rfl rfl) (levels16 xs es _ _ _ (ha.below hE0) (hb.below hE0) hfx hfe hn) ?_
  rintro _ w9 (⟨hn13, rfl, hx10⟩ | ⟨hn13, v11, lev, rfl, hx10, hIs, hO12⟩)
  ·
    refine ⟨_, rfl, ?_⟩
    have hE14 : Below w0.heap.size w0 w9 := hx10.e hE0 (Nat.le_refl _)
    have hz15 := hE14.le
    have hs16 := hx10.size
    refine st_q (v := .tuple #[.slice none 0 0, .int .i64 ((15 : Nat) : Int)]) (x_move rfl) ?_
    refine st_q (v := .slice none 0 0) (x_extract rfl rfl) ?_
    refine st_q (v := .int .i64 ((15 : Nat) : Int)) (x_extract rfl rfl) ?_
    refine st_q (v := .slice none 0 0) (x_assign rfl) ?_
    refine st_q (v := .int .i64 ((15 : Nat) : Int)) (x_assign rfl) ?_
    refine st_nil ?_
    refine kn6 _ _ ?_
    refine seqK fun Q17 kn18 kr19 ke20 => ?_
    refine seqK fun Q21 kn22 kr23 ke24 => ?_
    refine region ?_
    refine st_q (v := .int .i64 ((15 : Nat) : Int)) (x_move rfl) ?_
    refine st_c (t_call [.int .i64 ((15 : Nat) : Int)] T.cf21 rfl rfl) (num21 15 _) ?_
    rintro _ _ ⟨rfl, rfl⟩
    refine ⟨_, rfl, ?_⟩
    refine st_q (v := .bool (decide (15 ≠ 0))) (x_neqN rfl rfl) ?_
    refine st_nil ?_
    refine kn22 _ _ ?_
    refine cnd (p := 15 ≠ 0) rfl (fun h25 => ?_) (fun h25 => ?_)
    ·
      refine seqK fun Q26 kn27 kr28 ke29 => ?_
      refine region ?_
      refine st_q (v := .slice none 0 0) (x_move rfl) ?_
      refine st_q (v := .int .i64 ((0 : Nat) : Int)) (x_lenSl rfl Try.underlying32 rfl) ?_
      refine st_q (v := .bool (decide (0 = 0))) (x_eqlN rfl rfl) ?_
      refine st_if (p := 0 = 0) (x_move rfl) (fun h30 => ?_) (fun h30 => ?_)
      ·
        refine st_gq 3 25 rfl rfl (by decide) ?_
        refine st_c (t_call [] T.cf15 rfl rfl) (known15 _) ?_
        rintro _ w31 ⟨rfl, hx32⟩
        refine ⟨_, rfl, ?_⟩
        have hE33 : Below w0.heap.size w0 w31 := hx32.e hE14 (Nat.le_refl _)
        have hz34 := hE33.le
        have hs35 := hx32.size
        refine st_q (v := .bool true) (x_pickT rfl rfl) ?_
        refine st_q (v := .bool true) (x_assign rfl) ?_
        refine st_nil ?_
        refine kn27 _ _ ?_
        refine ret ?_
        refine kr19 _ _ ?_
        refine leave1 (P := Try.prog) (fn := Try.f6) (t := 4) (v := .bool true) rfl rfl ?_
        exact ⟨rfl, hE33⟩
      ·
        exact absurd h30 (not_not_intro rfl)
    ·
      exact absurd h25 (not_not_intro (by decide))
  ·
    refine ⟨_, rfl, ?_⟩
    have hE36 : Below w0.heap.size w0 w9 := hx10.e hE0 (Nat.le_refl _)
    have hz37 := hE36.le
    have hs38 := hx10.size
    have hbnd : ∀ s, s ∈ (nodesL xs es) → lev s ≤ (nodesL xs es).length := fun s hs => hIs.bnd (fun e he => ⟨nodesL_mem.2 (.inr ⟨e, he, .inl rfl⟩), nodesL_mem.2 (.inr ⟨e, he, .inr rfl⟩)⟩) hs
    have hnl := nodesL_len xs es
    have hrkl := ranksOf_len (nodesL xs es) lev
    obtain ⟨ar, cr, rfl, _, _⟩ := hO12.src.form
    refine st_q (v := .tuple #[.slice ar ((nodesL xs es).length) cr, .int .i64 ((0 : Nat) : Int)]) (x_move rfl) ?_
    refine st_q (v := .slice ar ((nodesL xs es).length) cr) (x_extract rfl rfl) ?_
    refine st_q (v := .int .i64 ((0 : Nat) : Int)) (x_extract rfl rfl) ?_
    refine st_q (v := .slice ar ((nodesL xs es).length) cr) (x_assign rfl) ?_
    refine st_q (v := .int .i64 ((0 : Nat) : Int)) (x_assign rfl) ?_
    refine st_nil ?_
    refine kn6 _ _ ?_
    refine seqK fun Q39 kn40 kr41 ke42 => ?_
    refine seqK fun Q43 kn44 kr45 ke46 => ?_
    refine region ?_
    refine st_q (v := .int .i64 ((0 : Nat) : Int)) (x_move rfl) ?_
    refine st_c (t_call [.int .i64 ((0 : Nat) : Int)] T.cf21 rfl rfl) (num21 0 _) ?_
    rintro _ _ ⟨rfl, rfl⟩
    refine ⟨_, rfl, ?_⟩
    refine st_q (v := .bool (decide (0 ≠ 0))) (x_neqN rfl rfl) ?_
    refine st_nil ?_
    refine kn44 _ _ ?_
    refine cnd (p := 0 ≠ 0) rfl (fun h47 => ?_) (fun h47 => ?_)
    ·
      exact absurd h47 (not_not_intro rfl)
    ·
      refine skip ?_
      refine kn40 _ _ ?_
      refine seqK fun Q48 kn49 kr50 ke51 => ?_
      refine seqK fun Q52 kn53 kr54 ke55 => ?_
      refine region ?_
      refine st_q (v := .int .i64 ((0 : Nat) : Int)) (x_assign rfl) ?_
      refine st_nil ?_
      refine kn53 _ _ ?_
      refine blockK fun Q56 kn57 kr58 kx59 kb60 => ?_
      refine loopK (α := Nat) (fun x => [(1, .slice b es.length cb), (5, .slice ar ((nodesL xs es).length) cr), (7, .int .i64 ((x : Nat) : Int))]) (fun x w61 => Below w0.heap.size w0 w61 ∧ (x ≤ (nodesL xs es).length) ∧ Own w61.heap w0.heap.size 45 2 (.slice ar (nodesL xs es).length cr) (nodesL xs es).length (flat enR (ranksOf (nodesL xs es) lev))) (fun x => (nodesL xs es).length - x) (0) ⟨rfl, rfl, rfl, trivial⟩ ?_ ?_
      ·
        refine ⟨hE36, ?_⟩
        try dsimp only
        refine ⟨?_, hO12⟩
        exact Nat.zero_le _
      ·
        rintro τ62 i w63 ⟨hx65, ⟨hi, hC64⟩⟩
        try dsimp only at hi hC64
        have hz66 := hx65.le
        intro Q67 kn68 kr69 ke70
        refine seqK fun Q71 kn72 kr73 ke74 => ?_
        refine seqK fun Q75 kn76 kr77 ke78 => ?_
        refine region ?_
        refine st_q (v := .int .i64 ((i : Nat) : Int)) (x_move rfl) ?_
        refine st_q (v := .slice ar ((nodesL xs es).length) cr) (x_move rfl) ?_
        refine st_q (v := .int .i64 (((nodesL xs es).length : Nat) : Int)) (x_lenSl rfl Try.underlying32 rfl) ?_
        refine st_q (v := .bool (decide (i < ((nodesL xs es).length)))) (x_lssN rfl rfl) ?_
        refine st_nil ?_
        refine kn76 _ _ ?_
        refine cnd (p := i < ((nodesL xs es).length)) rfl (fun h79 => ?_) (fun h79 => ?_)
        ·
          refine skip ?_
          refine kn72 _ _ ?_
          refine seqK fun Q80 kn81 kr82 ke83 => ?_
          refine blockK fun Q84 kn85 kr86 kx87 kb88 => ?_
          refine seqK fun Q89 kn90 kr91 ke92 => ?_
          refine seqK fun Q93 kn94 kr95 ke96 => ?_
          refine region ?_
          refine st_q (v := .slice ar ((nodesL xs es).length) cr) (x_move rfl) ?_
          refine st_q (v := .int .i64 ((i : Nat) : Int)) (x_move rfl) ?_
          have hri := ranksOf_el (ns := (nodesL xs es)) (lev := lev) (i := i) (by omega)
          have hrb := hbnd _ (el_memS (show i < (nodesL xs es).length by omega))
          have hnn : 0 ≤ (el (ranksOf (nodesL xs es) lev) i).2 ∧ (el (ranksOf (nodesL xs es) lev) i).2 ≤ 2097152 := by rw [hri]; dsimp only; omega
          have hnn0 := hnn.1
          have hnn1 := hnn.2
          obtain ⟨b97, o98, ha99, hc100⟩ := hC64.src.at (by omega)
          refine st_q (v := .pointer (some ⟨b97, o98 + i * 2, none⟩)) (x_index' T.sl32 rfl ha99 rfl (by omega)) ?_
          refine st_q (v := .pointer (some ⟨b97, o98 + i * 2 + 1, none⟩)) (x_field (o := o98 + i * 2) T.fa45_1 rfl) ?_
          refine st_q (v := .int .i64 ((el (ranksOf (nodesL xs es) lev) i).2)) (x_load1 T.na3 rfl ((hc100.elem enR_len (i := i) (by omega)).fld 1 rfl)) ?_
          refine st_q (v := .bool (decide (((el (ranksOf (nodesL xs es) lev) i).2) < 0))) (x_lss rfl rfl) ?_
          refine st_nil ?_
          refine kn94 _ _ ?_
          refine cnd (p := ((el (ranksOf (nodesL xs es) lev) i).2) < 0) rfl (fun h101 => ?_) (fun h101 => ?_)
          ·
            exact absurd h101 (by omega)
          ·
            refine skip ?_
            refine kn90 _ _ ?_
            refine seqK fun Q102 kn103 kr104 ke105 => ?_
            refine region ?_
            refine st_q (v := .slice none 0 0) (x_assign rfl) ?_
            refine st_nil ?_
            refine kn103 _ _ ?_
            refine seqK fun Q106 kn107 kr108 ke109 => ?_
            refine seqK fun Q110 kn111 kr112 ke113 => ?_
            refine region ?_
            refine st_q (v := .int .i64 ((0 : Nat) : Int)) (x_assign rfl) ?_
            refine st_nil ?_
            refine kn111 _ _ ?_
            refine blockK fun Q114 kn115 kr116 kx117 kb118 => ?_
            refine loopK (α := Nat × Value × (List Edge)) (fun x => [(1, .slice b es.length cb), (5, .slice ar ((nodesL xs es).length) cr), (7, .int .i64 ((i : Nat) : Int)), (8, x.2.1), (9, .int .i64 ((x.1 : Nat) : Int))]) (fun x w119 => Below w0.heap.size w0 w119 ∧ (x.1 ≤ es.length ∧ x.2.2 = (flatL (es.take x.1) (ranksOf (nodesL xs es) lev) (el (ranksOf (nodesL xs es) lev) i).2) ∧ Own w119.heap w0.heap.size 47 3 x.2.1 x.2.2.length (flat enE x.2.2)) ∧ Own w119.heap w0.heap.size 45 2 (.slice ar (nodesL xs es).length cr) (nodesL xs es).length (flat enR (ranksOf (nodesL xs es) lev))) (fun x => es.length - x.1) (0, .slice none 0 0, []) ⟨rfl, rfl, rfl, rfl, rfl, trivial⟩ ?_ ?_
            ·
              refine ⟨hx65, ?_⟩
              try dsimp only
              refine ⟨?_, hC64⟩
              exact ⟨Nat.zero_le _, rfl, Own.nil _ _ _ _⟩
            ·
              rintro τ120 ⟨k, v, fl⟩ w121 ⟨hx123, ⟨⟨hk, hfl, hOf⟩, hC122⟩⟩
              try dsimp only at hk hfl hOf hC122
              have hz124 := hx123.le
              intro Q125 kn126 kr127 ke128
              obtain ⟨a129, c130, rfl, hm131, hm132⟩ := hOf.src.form
              have hfll : fl.length ≤ k := by rw [hfl]; have h := flatL_len (es.take k) (ranksOf (nodesL xs es) lev) (el (ranksOf (nodesL xs es) lev) i).2; rw [List.length_take] at h; omega
              refine seqK fun Q133 kn134 kr135 ke136 => ?_
              refine seqK fun Q137 kn138 kr139 ke140 => ?_
              refine region ?_
              refine st_q (v := .int .i64 ((k : Nat) : Int)) (x_move rfl) ?_
              refine st_q (v := .slice b es.length cb) (x_move rfl) ?_
              refine st_q (v := .int .i64 ((es.length : Nat) : Int)) (x_lenSl rfl Try.underlying23 rfl) ?_
              refine st_q (v := .bool (decide (k < es.length))) (x_lssN rfl rfl) ?_
              refine st_nil ?_
              refine kn138 _ _ ?_
              refine cnd (p := k < es.length) rfl (fun h141 => ?_) (fun h141 => ?_)
              ·
                refine skip ?_
                refine kn134 _ _ ?_
                refine seqK fun Q142 kn143 kr144 ke145 => ?_
                refine blockK fun Q146 kn147 kr148 kx149 kb150 => ?_
                refine seqK fun Q151 kn152 kr153 ke154 => ?_
                refine regionD1 [5, 11, 19, 25] [0, 1, 2, 3, 4, 5, 7, 8, 9, 10, 11, 12, 13, 14, 15, 16, 17, 18, 19, 21, 22, 23, 24, 25, 26, 27] (.one 0 (.one 1 (.one 2 (.one 3 (.one 4 (.one 5 (.one 7 (.one 8 (.one 9 (.one 10 (.one 11 (.one 6 (.one 12 (.one 13 (.one 14 (.one 15 (.one 16 (.one 17 (.one 18 (.one 19 (.one 21 (.one 22 (.one 23 (.one 24 (.one 25 (.one 20 (.one 26 (.one 27 .done)))))))))))))))))))))))))))) (by kernel_rfl) (by kernel_rfl) ?_
                intro w155 hx156 hs157
                have hF158 := hC122.ext hx156
                have hF159 := hOf.ext hx156
                have hE160 : Below w0.heap.size w0 w155 := hx156.e hx123 (Nat.le_refl _)
                have hz161 := hE160.le
                have hs162 := hx156.size
                have hS163 : Ext w155 w155 := Below.refl _ _
                refine d_q (v := .slice ar ((nodesL xs es).length) cr) rfl rfl (fun _ => x_move rfl) ?_
                refine d_q (v := .slice b es.length cb) rfl rfl (fun _ => x_move rfl) ?_
                refine d_q (v := .int .i64 ((k : Nat) : Int)) rfl rfl (fun _ => x_move rfl) ?_
                obtain ⟨b164, o165, ha166, hc167⟩ := hb.at (by omega)
                refine d_q (v := .pointer (some ⟨b164, o165 + k * 3, none⟩)) rfl rfl (fun _ => x_index' T.sl23 rfl ha166 rfl (by omega)) ?_
                refine d_q (v := .pointer (some ⟨b164, o165 + k * 3, none⟩)) rfl rfl (fun _ => x_field (o := o165 + k * 3) T.fa47_0 rfl) ?_
                refine d_l (v := .string ((el es k).1)) rfl rfl rfl (fun v169 hw168 => x_load1 T.na9 rfl ((((hc167.below hE160).elem enE_len (i := k) (by omega)).fld 0 rfl).ext hw168)) ?_
                refine d_q (v := .slice ar ((nodesL xs es).length) cr) rfl rfl (fun _ => x_move rfl) ?_
                refine d_q (v := .int .i64 ((i : Nat) : Int)) rfl rfl (fun _ => x_move rfl) ?_
                obtain ⟨b170, o171, ha172, hc173⟩ := hF158.src.at (by omega)
                refine d_q (v := .pointer (some ⟨b170, o171 + i * 2, none⟩)) rfl rfl (fun _ => x_index' T.sl32 rfl ha172 rfl (by omega)) ?_
                refine d_q (v := .pointer (some ⟨b170, o171 + i * 2 + 1, none⟩)) rfl rfl (fun _ => x_field (o := o171 + i * 2) T.fa45_1 rfl) ?_
                refine d_l (v := .int .i64 ((el (ranksOf (nodesL xs es) lev) i).2)) rfl rfl rfl (fun v175 hw174 => x_load1 T.na3 rfl (((hc173.elem enR_len (i := i) (by omega)).fld 1 rfl).ext hw174)) ?_
                refine d_e (by decide) (d_c' rfl rfl (t_call [.slice ar ((nodesL xs es).length) cr, .string ((el es k).1)] T.cf24 rfl rfl) (level24 (ranksOf (nodesL xs es) lev) (el es k).1 _ _ (Own.len hF158 hrkl.symm).src) ?_)
                rintro _ w176 ⟨rfl, hx177⟩
                refine ⟨_, rfl, ?_⟩
                have hF178 := hF158.ext hx177
                have hF179 := hF159.ext hx177
                have hF180 := hc173.ext hx177
                have hE181 : Below w0.heap.size w0 w176 := hx177.e hE160 (Nat.le_refl _)
                have hz182 := hE181.le
                have hs183 := hx177.size
                have hS184 := hS163.trans (hx177.mono hS163.size)
                refine ⟨fun _ => hS184, ?_⟩
                refine d_q (v := .bool (decide (((lvl (ranksOf (nodesL xs es) lev) (el es k).1)) = ((el (ranksOf (nodesL xs es) lev) i).2)))) rfl rfl (fun _ => x_eql rfl rfl) ?_
                refine d_if rfl rfl (p := ((lvl (ranksOf (nodesL xs es) lev) (el es k).1)) = ((el (ranksOf (nodesL xs es) lev) i).2)) (fun _ => x_move rfl) (fun h185 => ?_) (fun h185 => ?_)
                ·
                  refine d_gq (v := .slice ar ((nodesL xs es).length) cr) (j := 13) (t := 59) rfl rfl rfl rfl (by decide) (fun _ => x_move rfl) ?_
                  refine d_gq (v := .slice b es.length cb) (j := 13) (t := 59) rfl rfl rfl rfl (by decide) (fun _ => x_move rfl) ?_
                  refine d_gq (v := .int .i64 ((k : Nat) : Int)) (j := 13) (t := 59) rfl rfl rfl rfl (by decide) (fun _ => x_move rfl) ?_
                  refine d_gq (v := .pointer (some ⟨b164, o165 + k * 3, none⟩)) (j := 13) (t := 59) rfl rfl rfl rfl (by decide) (fun _ => x_index' T.sl23 rfl ha166 rfl (by omega)) ?_
                  refine d_gq (v := .pointer (some ⟨b164, o165 + k * 3 + 1, none⟩)) (j := 13) (t := 59) rfl rfl rfl rfl (by decide) (fun _ => x_field (o := o165 + k * 3) T.fa47_1 rfl) ?_
                  refine d_gl (v := .string ((el es k).2.1)) (j := 13) (t := 59) rfl rfl rfl rfl rfl (by decide) (fun v187 hw186 => x_load1 T.na9 rfl ((((hc167.below hE160).elem enE_len (i := k) (by omega)).fld 1 rfl).ext hw186)) ?_
                  refine d_gq (v := .slice ar ((nodesL xs es).length) cr) (j := 13) (t := 59) rfl rfl rfl rfl (by decide) (fun _ => x_move rfl) ?_
                  refine d_gq (v := .int .i64 ((i : Nat) : Int)) (j := 13) (t := 59) rfl rfl rfl rfl (by decide) (fun _ => x_move rfl) ?_
                  obtain ⟨b188, o189, ha190, hc191⟩ := hF158.src.at (by omega)
                  have hF192 := hc191.ext hS184
                  refine d_gq (v := .pointer (some ⟨b188, o189 + i * 2, none⟩)) (j := 13) (t := 59) rfl rfl rfl rfl (by decide) (fun _ => x_index' T.sl32 rfl ha190 rfl (by omega)) ?_
                  refine d_gq (v := .pointer (some ⟨b188, o189 + i * 2 + 1, none⟩)) (j := 13) (t := 59) rfl rfl rfl rfl (by decide) (fun _ => x_field (o := o189 + i * 2) T.fa45_1 rfl) ?_
                  refine d_gl (v := .int .i64 ((el (ranksOf (nodesL xs es) lev) i).2)) (j := 13) (t := 59) rfl rfl rfl rfl rfl (by decide) (fun v194 hw193 => x_load1 T.na3 rfl (((hc191.elem enR_len (i := i) (by omega)).fld 1 rfl).ext hw193)) ?_
                  refine d_e (by decide) (d_c' rfl (wanted_true (j := 13) (t := 59) rfl rfl (by decide)) (t_call [.slice ar ((nodesL xs es).length) cr, .string ((el es k).2.1)] T.cf24 rfl rfl) (level24 (ranksOf (nodesL xs es) lev) (el es k).2.1 _ _ (Own.len hF178 hrkl.symm).src) ?_)
                  rintro _ w195 ⟨rfl, hx196⟩
                  refine ⟨_, rfl, ?_⟩
                  have hF197 := hF178.ext hx196
                  have hF198 := hF179.ext hx196
                  have hF199 := hF180.ext hx196
                  have hF200 := hF192.ext hx196
                  have hE201 : Below w0.heap.size w0 w195 := hx196.e hE181 (Nat.le_refl _)
                  have hz202 := hE201.le
                  have hs203 := hx196.size
                  have hS204 := hS184.trans (hx196.mono hS184.size)
                  refine ⟨fun _ => hS204, ?_⟩
                  refine d_gq (v := .bool (decide (((lvl (ranksOf (nodesL xs es) lev) (el es k).2.1)) = ((el (ranksOf (nodesL xs es) lev) i).2)))) (j := 13) (t := 59) rfl rfl rfl rfl (by decide) (fun _ => x_eql rfl rfl) ?_
                  refine d_q (v := .bool (decide (((lvl (ranksOf (nodesL xs es) lev) (el es k).2.1)) = ((el (ranksOf (nodesL xs es) lev) i).2)))) rfl rfl (fun _ => x_pickT rfl rfl) ?_
                  refine d_done ?_
                  refine kn152 _ _ ?_
                  refine cnd (p := ((lvl (ranksOf (nodesL xs es) lev) (el es k).2.1)) = ((el (ranksOf (nodesL xs es) lev) i).2)) rfl (fun h205 => ?_) (fun h205 => ?_)
                  ·
                    refine region ?_
                    refine st_q (v := .slice a129 fl.length c130) (x_move rfl) ?_
                    refine st_q (v := .slice b es.length cb) (x_move rfl) ?_
                    refine st_q (v := .int .i64 ((k : Nat) : Int)) (x_move rfl) ?_
                    refine st_q (v := .pointer (some ⟨b164, o165 + k * 3, none⟩)) (x_index' T.sl23 rfl ha166 rfl (by omega)) ?_
                    refine st_q (v := .agg #[.string ((el es k).1), .string ((el es k).2.1), .bool ((el es k).2.2)]) (x_loadA [.string ((el es k).1), .string ((el es k).2.1), .bool ((el es k).2.2)] T.ag47 rfl ((hc167.below hE201).elem enE_len (i := k) (by omega))) ?_
                    refine st_e (e_buildSlice (cs := [.string ((el es k).1), .string ((el es k).2.1), .bool ((el es k).2.2)]) (e := 47) (fun _ => by kernel_rfl) ?_)
                    intro w206 hA207
                    have hx208 := hA207.ext
                    have hs209 := hA207.size
                    have hB210 : Blk w206.heap w195.heap.size [.string ((el es k).1), .string ((el es k).2.1), .bool ((el es k).2.2)] 47 := hA207.new
                    have hF211 := hF197.ext hx208
                    have hF212 := hF198.ext hx208
                    have hF213 := hF199.ext hx208
                    have hF214 := hF200.ext hx208
                    have hE215 : Below w0.heap.size w0 w206 := hx208.e hE201 (Nat.le_refl _)
                    have hz216 := hE215.le
                    have hs217 := hx208.size
                    refine st_e (e_appendX T.sl23 rfl rfl hF212 (hB210.src1 (k := 3) (m := 1) rfl (by omega)) (ones (by rfl)) (by omega) (by decide) (by omega) ?_)
                    intro v218 w219 hO220 hG221 hN222 hW223
                    have hF224 := hF211.gk (hG221) (hF212.rowk) (by decide)
                    have hE227 : Below w0.heap.size w0 w219 := grown_below hG221 hE215 (Nat.le_refl _) (fun b hb => (by have := (hF212.lt hb).1; clear hb; omega))
                    have hz228 := hE227.le
                    have hs229 := hG221.size
                    have hO230 := Own.snoc (enc := enE) (u := (el es k)) hO220
                    obtain ⟨a231, c232, rfl, hm233, hm234⟩ := hO230.src.form
                    refine st_q (v := .slice a231 ((fl.length + 1)) c232) (x_assign rfl) ?_
                    refine st_nil ?_
                    refine kn147 _ _ ?_
                    refine kn143 _ _ ?_
                    refine region ?_
                    refine st_q (v := .int .i64 ((k : Nat) : Int)) (x_move rfl) ?_
                    refine st_q (v := .int .i64 (((k + 1) : Nat) : Int)) (x_addN rfl rfl (by omega)) ?_
                    refine st_q (v := .int .i64 (((k + 1) : Nat) : Int)) (x_assign rfl) ?_
                    refine st_nil ?_
                    refine kn126 _ ((k + 1), .slice a231 ((fl.length + 1)) c232, (fl ++ [(el es k)])) _ ⟨rfl, rfl, rfl, rfl, rfl, trivial⟩ ⟨hE227, ?_⟩ ?_
                    ·
                      try dsimp only
                      refine ⟨?_, hF224⟩
                      exact ⟨by omega, by rw [flatL_yes (by omega) (by assumption) (by assumption), hfl], by rw [List.length_append]; exact hO230⟩
                    ·
                      (try dsimp only); omega
                  ·
                    refine skip ?_
                    refine kn147 _ _ ?_
                    refine kn143 _ _ ?_
                    refine region ?_
                    refine st_q (v := .int .i64 ((k : Nat) : Int)) (x_move rfl) ?_
                    refine st_q (v := .int .i64 (((k + 1) : Nat) : Int)) (x_addN rfl rfl (by omega)) ?_
                    refine st_q (v := .int .i64 (((k + 1) : Nat) : Int)) (x_assign rfl) ?_
                    refine st_nil ?_
                    refine kn126 _ ((k + 1), .slice a129 fl.length c130, fl) _ ⟨rfl, rfl, rfl, rfl, rfl, trivial⟩ ⟨hE201, ?_⟩ ?_
                    ·
                      try dsimp only
                      refine ⟨?_, hF197⟩
                      exact ⟨by omega, by rw [flatL_no (by omega) (fun hh => by first | exact absurd hh.1 (by assumption) | exact absurd hh.2 (by assumption)), hfl], hF198⟩
                    ·
                      (try dsimp only); omega
                ·
                  refine d_gn (j := 13) (t := 59) rfl rfl rfl rfl (by decide) rfl ?_
                  refine d_gn (j := 13) (t := 59) rfl rfl rfl rfl (by decide) rfl ?_
                  refine d_gn (j := 13) (t := 59) rfl rfl rfl rfl (by decide) rfl ?_
                  refine d_gn (j := 13) (t := 59) rfl rfl rfl rfl (by decide) rfl ?_
                  refine d_gn (j := 13) (t := 59) rfl rfl rfl rfl (by decide) rfl ?_
                  refine d_gn (j := 13) (t := 59) rfl rfl rfl rfl (by decide) rfl ?_
                  refine d_gn (j := 13) (t := 59) rfl rfl rfl rfl (by decide) rfl ?_
                  refine d_gn (j := 13) (t := 59) rfl rfl rfl rfl (by decide) rfl ?_
                  refine d_gn (j := 13) (t := 59) rfl rfl rfl rfl (by decide) rfl ?_
                  refine d_gn (j := 13) (t := 59) rfl rfl rfl rfl (by decide) rfl ?_
                  refine d_gn (j := 13) (t := 59) rfl rfl rfl rfl (by decide) rfl ?_
                  refine d_e (by decide) (wpE_skip (j := 13) (t := 59) rfl rfl rfl (by decide) rfl (fun _ => hS184) ?_)
                  refine d_gn (j := 13) (t := 59) rfl rfl rfl rfl (by decide) rfl ?_
                  refine d_q (v := .bool false) rfl rfl (fun _ => x_pickF rfl rfl) ?_
                  refine d_done ?_
                  refine kn152 _ _ ?_
                  refine cndF rfl ?_
                  refine skip ?_
                  refine kn147 _ _ ?_
                  refine kn143 _ _ ?_
                  refine region ?_
                  refine st_q (v := .int .i64 ((k : Nat) : Int)) (x_move rfl) ?_
                  refine st_q (v := .int .i64 (((k + 1) : Nat) : Int)) (x_addN rfl rfl (by omega)) ?_
                  refine st_q (v := .int .i64 (((k + 1) : Nat) : Int)) (x_assign rfl) ?_
                  refine st_nil ?_
                  refine kn126 _ ((k + 1), .slice a129 fl.length c130, fl) _ ⟨rfl, rfl, rfl, rfl, rfl, trivial⟩ ⟨hE181, ?_⟩ ?_
                  ·
                    try dsimp only
                    refine ⟨?_, hF178⟩
                    exact ⟨by omega, by rw [flatL_no (by omega) (fun hh => by first | exact absurd hh.1 (by assumption) | exact absurd hh.2 (by assumption)), hfl], hF179⟩
                  ·
                    (try dsimp only); omega
              ·
                refine exit ?_
                refine ke136 _ _ _ ?_
                refine ke128 _ _ _ ?_
                refine kb118 _ _ ?_
                refine kn107 _ _ ?_
                refine seqK fun Q235 kn236 kr237 ke238 => ?_
                refine region ?_
                refine st_q (v := .slice a129 fl.length c130) (x_move rfl) ?_
                refine st_q (v := .slice ar ((nodesL xs es).length) cr) (x_move rfl) ?_
                refine st_q (v := .int .i64 ((i : Nat) : Int)) (x_move rfl) ?_
                obtain ⟨b239, o240, ha241, hc242⟩ := hC122.src.at (by omega)
                refine st_q (v := .pointer (some ⟨b239, o240 + i * 2, none⟩)) (x_index' T.sl32 rfl ha241 rfl (by omega)) ?_
                refine st_q (v := .pointer (some ⟨b239, o240 + i * 2, none⟩)) (x_field (o := o240 + i * 2) T.fa45_0 rfl) ?_
                refine st_q (v := .string ((el (ranksOf (nodesL xs es) lev) i).1)) (x_load1 T.na9 rfl ((hc242.elem enR_len (i := i) (by omega)).fld 0 rfl)) ?_
                refine st_e (e_buildSlice (cs := [.string ((el (ranksOf (nodesL xs es) lev) i).1)]) (e := 9) (fun _ => by kernel_rfl) ?_)
                intro w243 hA244
                have hx245 := hA244.ext
                have hs246 := hA244.size
                have hB247 : Blk w243.heap w121.heap.size [.string ((el (ranksOf (nodesL xs es) lev) i).1)] 9 := hA244.new
                have hF248 := hC122.ext hx245
                have hF249 := hOf.ext hx245
                have hF250 := hc242.ext hx245
                have hE251 : Below w0.heap.size w0 w243 := hx245.e hx123 (Nat.le_refl _)
                have hz252 := hE251.le
                have hs253 := hx245.size
                have hl254 : Src w243.heap (.slice (some ⟨w121.heap.size, 0, none⟩) 1 1) (([(el (ranksOf (nodesL xs es) lev) i).1] : List ByteArray) : List _).length 1 (flat enS ([(el (ranksOf (nodesL xs es) lev) i).1] : List ByteArray)) := hB247.src1 (k := 1) (m := 1) rfl (by omega)
                have ek : k = es.length := by omega
                rw [ek, List.take_length] at hfl
                refine st_c (t_call [.slice a129 fl.length c130, .slice ((some ⟨w121.heap.size, 0, none⟩)) 1 1] T.cf26 rfl rfl) (reach26 fl [(el (ranksOf (nodesL xs es) lev) i).1] _ _ _ hF249.src hl254 (fun s hs => by rw [List.mem_singleton] at hs; subst hs; rw [hri]; exact nodesL_fit hfx hfe _ (el_memS (by omega))) (fit_sub hfe (fun e he => by rw [hfl] at he; exact (List.mem_filter.1 he).1)) (by simp only [List.length_singleton]; omega)) ?_
                rintro _ w255 ⟨v257, R, rfl, hx256, hR, hO258⟩
                refine ⟨_, rfl, ?_⟩
                rw [hfl] at hR
                have hreas := reason hIs hends (show i < (nodesL xs es).length by omega) hR
                have hB261 := hB247.ext hx256
                have hF262 := hF248.ext hx256
                have hF263 := hF249.ext hx256
                have hF264 := hF250.ext hx256
                have hE265 : Below w0.heap.size w0 w255 := hx256.e hE251 (Nat.le_refl _)
                have hz266 := hE265.le
                have hs267 := hx256.size
                have hO2580 := hO258.weak (lo' := w0.heap.size) (by omega)
                refine st_q (v := v257) (x_assign rfl) ?_
                refine st_nil ?_
                refine kn236 _ _ ?_
                refine seqK fun Q268 kn269 kr270 ke271 => ?_
                refine region ?_
                refine st_q (v := .slice ar ((nodesL xs es).length) cr) (x_move rfl) ?_
                refine st_q (v := .int .i64 ((i : Nat) : Int)) (x_move rfl) ?_
                obtain ⟨b272, o273, ha274, hc275⟩ := hF262.src.at (by omega)
                refine st_q (v := .pointer (some ⟨b272, o273 + i * 2, none⟩)) (x_index' T.sl32 rfl ha274 rfl (by omega)) ?_
                refine st_q (v := .pointer (some ⟨b272, o273 + i * 2 + 1, none⟩)) (x_field (o := o273 + i * 2) T.fa45_1 rfl) ?_
                refine st_q (v := .int .i64 ((el (ranksOf (nodesL xs es) lev) i).2)) (x_load1 T.na3 rfl ((hc275.elem enR_len (i := i) (by omega)).fld 1 rfl)) ?_
                refine st_q (v := .bool (decide (((el (ranksOf (nodesL xs es) lev) i).2) = 0))) (x_eql rfl rfl) ?_
                refine st_q (v := .bool (decide (((el (ranksOf (nodesL xs es) lev) i).2) = 0))) (x_assign rfl) ?_
                refine st_nil ?_
                refine kn269 _ _ ?_
                refine seqK fun Q276 kn277 kr278 ke279 => ?_
                refine seqK fun Q280 kn281 kr282 ke283 => ?_
                refine region ?_
                refine st_q (v := .int .i64 ((0 : Nat) : Int)) (x_assign rfl) ?_
                refine st_nil ?_
                refine kn281 _ _ ?_
                refine blockK fun Q284 kn285 kr286 kx287 kb288 => ?_
                refine loopK (α := Nat × Bool) (fun x => [(1, .slice b es.length cb), (5, .slice ar ((nodesL xs es).length) cr), (7, .int .i64 ((i : Nat) : Int)), (10, v257), (11, .bool x.2), (12, .int .i64 ((x.1 : Nat) : Int))]) (fun x w289 => Below w0.heap.size w0 w289 ∧ (x.1 ≤ es.length ∧ (x.2 = true ↔ ((el (ranksOf (nodesL xs es) lev) i).2 = 0 ∨ ∃ j, j < x.1 ∧ Reas es (ranksOf (nodesL xs es) lev) R (el (ranksOf (nodesL xs es) lev) i).2 j))) ∧ Blk w289.heap w121.heap.size [.string ((el (ranksOf (nodesL xs es) lev) i).1)] 9 ∧ Own w289.heap w0.heap.size 45 2 (.slice ar (nodesL xs es).length cr) (nodesL xs es).length (flat enR (ranksOf (nodesL xs es) lev)) ∧ Own w289.heap w0.heap.size 9 1 v257 R.length (flat enS R)) (fun x => es.length - x.1) (0, (decide (((el (ranksOf (nodesL xs es) lev) i).2) = 0))) ⟨rfl, rfl, rfl, rfl, rfl, rfl, trivial⟩ ?_ ?_
                ·
                  refine ⟨hE265, ?_⟩
                  try dsimp only
                  refine ⟨?_, hB261, hF262, hO2580⟩
                  refine ⟨Nat.zero_le _, ?_⟩
                  rw [decide_eq_true_iff]
                  exact ⟨.inl, fun h => h.elim id (fun ⟨j, hj, _⟩ => absurd hj (by omega))⟩
                ·
                  rintro τ290 ⟨k2, rs⟩ w291 ⟨hx295, ⟨⟨hk2, hrs⟩, hC292, hC293, hC294⟩⟩
                  try dsimp only at hk2 hrs hC292 hC293 hC294
                  have hz296 := hx295.le
                  intro Q297 kn298 kr299 ke300
                  refine seqK fun Q301 kn302 kr303 ke304 => ?_
                  refine seqK fun Q305 kn306 kr307 ke308 => ?_
                  refine region ?_
                  refine st_q (v := .int .i64 ((k2 : Nat) : Int)) (x_move rfl) ?_
                  refine st_q (v := .slice b es.length cb) (x_move rfl) ?_
                  refine st_q (v := .int .i64 ((es.length : Nat) : Int)) (x_lenSl rfl Try.underlying23 rfl) ?_
                  refine st_q (v := .bool (decide (k2 < es.length))) (x_lssN rfl rfl) ?_
                  refine st_nil ?_
                  refine kn306 _ _ ?_
                  refine cnd (p := k2 < es.length) rfl (fun h309 => ?_) (fun h309 => ?_)
                  ·
                    refine skip ?_
                    refine kn302 _ _ ?_
                    refine seqK fun Q310 kn311 kr312 ke313 => ?_
                    refine blockK fun Q314 kn315 kr316 kx317 kb318 => ?_
                    refine regionD1 [6, 13, 22, 28] [0, 1, 2, 3, 4, 5, 6, 7, 8, 9, 10, 11, 12, 13, 15, 16, 17, 18, 19, 20, 21, 22, 24, 25, 26, 27, 28, 29, 30, 31, 32, 33] (.one 0 (.one 1 (.one 2 (.one 3 (.one 4 (.one 5 (.one 6 (.one 7 (.one 8 (.one 9 (.one 10 (.one 11 (.one 12 (.one 13 (.one 14 (.one 15 (.one 16 (.one 17 (.one 18 (.one 19 (.one 20 (.one 21 (.one 22 (.one 24 (.one 25 (.one 26 (.one 27 (.one 28 (.one 29 (.one 23 (.one 30 (.one 31 (.one 32 (.one 33 .done)))))))))))))))))))))))))))))))))) (by kernel_rfl) (by kernel_rfl) ?_
                    intro w319 hx320 hs321
                    have hB322 := hC292.ext hx320
                    have hF323 := hC293.ext hx320
                    have hF324 := hC294.ext hx320
                    have hE325 : Below w0.heap.size w0 w319 := hx320.e hx295 (Nat.le_refl _)
                    have hz326 := hE325.le
                    have hs327 := hx320.size
                    have hS328 : Ext w319 w319 := Below.refl _ _
                    refine d_q (v := .bool rs) rfl rfl (fun _ => x_move rfl) ?_
                    refine d_if rfl rfl (p := rs = true) (fun _ => x_moveBB rfl) (fun h329 => ?_) (fun h329 => ?_)
                    ·
                      refine d_gn (j := 1) (t := 102) rfl rfl rfl rfl (by decide) rfl ?_
                      refine d_gn (j := 1) (t := 102) rfl rfl rfl rfl (by decide) rfl ?_
                      refine d_gn (j := 1) (t := 102) rfl rfl rfl rfl (by decide) rfl ?_
                      refine d_gn (j := 1) (t := 102) rfl rfl rfl rfl (by decide) rfl ?_
                      refine d_gn (j := 1) (t := 102) rfl rfl rfl rfl (by decide) rfl ?_
                      refine d_gn (j := 1) (t := 102) rfl rfl rfl rfl (by decide) rfl ?_
                      refine d_gu (j := 7) (t := 108) rfl rfl rfl rfl (by decide) ?_
                      refine d_gu (j := 7) (t := 108) rfl rfl rfl rfl (by decide) ?_
                      refine d_gu (j := 7) (t := 108) rfl rfl rfl rfl (by decide) ?_
                      refine d_gu (j := 7) (t := 108) rfl rfl rfl rfl (by decide) ?_
                      refine d_gu (j := 7) (t := 108) rfl rfl rfl rfl (by decide) ?_
                      refine d_gu (j := 7) (t := 108) rfl rfl rfl rfl (by decide) ?_
                      refine d_e (by decide) (wpE_undef (j := 7) (t := 108) rfl rfl rfl (by decide) (fun _ => hS328) ?_)
                      refine d_gn (j := 1) (t := 102) rfl rfl rfl rfl (by decide) rfl ?_
                      refine d_gn (j := 1) (t := 102) rfl rfl rfl rfl (by decide) rfl ?_
                      refine d_gu (j := 16) (t := 117) rfl rfl rfl rfl (by decide) ?_
                      refine d_gu (j := 16) (t := 117) rfl rfl rfl rfl (by decide) ?_
                      refine d_gu (j := 16) (t := 117) rfl rfl rfl rfl (by decide) ?_
                      refine d_gu (j := 16) (t := 117) rfl rfl rfl rfl (by decide) ?_
                      refine d_gu (j := 16) (t := 117) rfl rfl rfl rfl (by decide) ?_
                      refine d_gu (j := 16) (t := 117) rfl rfl rfl rfl (by decide) ?_
                      refine d_gu (j := 16) (t := 117) rfl rfl rfl rfl (by decide) ?_
                      refine d_gu (j := 16) (t := 117) rfl rfl rfl rfl (by decide) ?_
                      refine d_gu (j := 16) (t := 117) rfl rfl rfl rfl (by decide) ?_
                      refine d_gu (j := 16) (t := 117) rfl rfl rfl rfl (by decide) ?_
                      refine d_gu (j := 16) (t := 117) rfl rfl rfl rfl (by decide) ?_
                      refine d_gu (j := 16) (t := 117) rfl rfl rfl rfl (by decide) ?_
                      refine d_e (by decide) (wpE_undef (j := 16) (t := 117) rfl rfl rfl (by decide) (fun _ => hS328) ?_)
                      refine d_gu (j := 16) (t := 117) rfl rfl rfl rfl (by decide) ?_
                      refine d_gn (j := 1) (t := 102) rfl rfl rfl rfl (by decide) rfl ?_
                      refine d_q (v := .bool true) rfl rfl (fun _ => x_pickT rfl rfl) ?_
                      refine d_q (v := .bool true) rfl rfl (fun _ => x_assign rfl) ?_
                      refine d_done ?_
                      refine kn315 _ _ ?_
                      refine kn311 _ _ ?_
                      refine region ?_
                      refine st_q (v := .int .i64 ((k2 : Nat) : Int)) (x_move rfl) ?_
                      refine st_q (v := .int .i64 (((k2 + 1) : Nat) : Int)) (x_addN rfl rfl (by omega)) ?_
                      refine st_q (v := .int .i64 (((k2 + 1) : Nat) : Int)) (x_assign rfl) ?_
                      refine st_nil ?_
                      refine kn298 _ ((k2 + 1), true) _ ⟨rfl, rfl, rfl, rfl, rfl, rfl, trivial⟩ ⟨hE325, ?_⟩ ?_
                      ·
                        try dsimp only
                        refine ⟨?_, hB322, hF323, hF324⟩
                        refine ⟨by omega, some_step hrs ?_⟩
                        exact ⟨fun _ => .inl (by assumption), fun _ => rfl⟩
                      ·
                        (try dsimp only); omega
                    ·
                      refine d_gq (v := .slice b es.length cb) (j := 1) (t := 102) rfl rfl rfl rfl (by decide) (fun _ => x_move rfl) ?_
                      refine d_gq (v := .int .i64 ((k2 : Nat) : Int)) (j := 1) (t := 102) rfl rfl rfl rfl (by decide) (fun _ => x_move rfl) ?_
                      obtain ⟨b330, o331, ha332, hc333⟩ := hb.at (by omega)
                      refine d_gq (v := .pointer (some ⟨b330, o331 + k2 * 3, none⟩)) (j := 1) (t := 102) rfl rfl rfl rfl (by decide) (fun _ => x_index' T.sl23 rfl ha332 rfl (by omega)) ?_
                      refine d_gq (v := .pointer (some ⟨b330, o331 + k2 * 3 + 2, none⟩)) (j := 1) (t := 102) rfl rfl rfl rfl (by decide) (fun _ => x_field (o := o331 + k2 * 3) T.fa47_2 rfl) ?_
                      refine d_gl (v := .bool ((el es k2).2.2)) (j := 1) (t := 102) rfl rfl rfl rfl rfl (by decide) (fun v335 hw334 => x_load1 T.na4 rfl ((((hc333.below hE325).elem enE_len (i := k2) (by omega)).fld 2 rfl).ext hw334)) ?_
                      refine d_gif (j := 1) (t := 102) rfl rfl rfl rfl (by decide) (p := (el es k2).2.2 = true) (fun _ => x_moveBB rfl) (fun h336 => ?_) (fun h336 => ?_)
                      ·
                        refine d_gq (v := v257) (j := 7) (t := 108) rfl rfl rfl rfl (by decide) (fun _ => x_move rfl) ?_
                        refine d_gq (v := .slice b es.length cb) (j := 7) (t := 108) rfl rfl rfl rfl (by decide) (fun _ => x_move rfl) ?_
                        refine d_gq (v := .int .i64 ((k2 : Nat) : Int)) (j := 7) (t := 108) rfl rfl rfl rfl (by decide) (fun _ => x_move rfl) ?_
                        refine d_gq (v := .pointer (some ⟨b330, o331 + k2 * 3, none⟩)) (j := 7) (t := 108) rfl rfl rfl rfl (by decide) (fun _ => x_index' T.sl23 rfl ha332 rfl (by omega)) ?_
                        refine d_gq (v := .pointer (some ⟨b330, o331 + k2 * 3, none⟩)) (j := 7) (t := 108) rfl rfl rfl rfl (by decide) (fun _ => x_field (o := o331 + k2 * 3) T.fa47_0 rfl) ?_
                        refine d_gl (v := .string ((el es k2).1)) (j := 7) (t := 108) rfl rfl rfl rfl rfl (by decide) (fun v338 hw337 => x_load1 T.na9 rfl ((((hc333.below hE325).elem enE_len (i := k2) (by omega)).fld 0 rfl).ext hw337)) ?_
                        refine d_e (by decide) (d_c' rfl (wanted_true (j := 7) (t := 108) rfl rfl (by decide)) (t_call [v257, .string ((el es k2).1)] T.cf27 rfl rfl) (among27 R (el es k2).1 _ _ hF324.src) ?_)
                        rintro _ w339 ⟨rfl, hx340⟩
                        refine ⟨_, rfl, ?_⟩
                        have hB341 := hB322.ext hx340
                        have hF342 := hF323.ext hx340
                        have hF343 := hF324.ext hx340
                        have hE344 : Below w0.heap.size w0 w339 := hx340.e hE325 (Nat.le_refl _)
                        have hz345 := hE344.le
                        have hs346 := hx340.size
                        have hS347 := hS328.trans (hx340.mono hS328.size)
                        refine ⟨fun _ => hS347, ?_⟩
                        refine d_gq (v := .bool ((inB R (el es k2).1))) (j := 1) (t := 102) rfl rfl rfl rfl (by decide) (fun _ => x_pickT rfl rfl) ?_
                        refine d_gif (j := 1) (t := 102) rfl rfl rfl rfl (by decide) (p := (inB R (el es k2).1) = true) (fun _ => x_moveBB rfl) (fun h348 => ?_) (fun h348 => ?_)
                        ·
                          refine d_gq (v := .slice ar ((nodesL xs es).length) cr) (j := 16) (t := 117) rfl rfl rfl rfl (by decide) (fun _ => x_move rfl) ?_
                          refine d_gq (v := .slice b es.length cb) (j := 16) (t := 117) rfl rfl rfl rfl (by decide) (fun _ => x_move rfl) ?_
                          refine d_gq (v := .int .i64 ((k2 : Nat) : Int)) (j := 16) (t := 117) rfl rfl rfl rfl (by decide) (fun _ => x_move rfl) ?_
                          refine d_gq (v := .pointer (some ⟨b330, o331 + k2 * 3, none⟩)) (j := 16) (t := 117) rfl rfl rfl rfl (by decide) (fun _ => x_index' T.sl23 rfl ha332 rfl (by omega)) ?_
                          refine d_gq (v := .pointer (some ⟨b330, o331 + k2 * 3 + 1, none⟩)) (j := 16) (t := 117) rfl rfl rfl rfl (by decide) (fun _ => x_field (o := o331 + k2 * 3) T.fa47_1 rfl) ?_
                          refine d_gl (v := .string ((el es k2).2.1)) (j := 16) (t := 117) rfl rfl rfl rfl rfl (by decide) (fun v350 hw349 => x_load1 T.na9 rfl ((((hc333.below hE325).elem enE_len (i := k2) (by omega)).fld 1 rfl).ext hw349)) ?_
                          refine d_gq (v := .slice ar ((nodesL xs es).length) cr) (j := 16) (t := 117) rfl rfl rfl rfl (by decide) (fun _ => x_move rfl) ?_
                          refine d_gq (v := .int .i64 ((i : Nat) : Int)) (j := 16) (t := 117) rfl rfl rfl rfl (by decide) (fun _ => x_move rfl) ?_
                          obtain ⟨b351, o352, ha353, hc354⟩ := hF323.src.at (by omega)
                          have hF355 := hc354.ext hS347
                          refine d_gq (v := .pointer (some ⟨b351, o352 + i * 2, none⟩)) (j := 16) (t := 117) rfl rfl rfl rfl (by decide) (fun _ => x_index' T.sl32 rfl ha353 rfl (by omega)) ?_
                          refine d_gq (v := .pointer (some ⟨b351, o352 + i * 2 + 1, none⟩)) (j := 16) (t := 117) rfl rfl rfl rfl (by decide) (fun _ => x_field (o := o352 + i * 2) T.fa45_1 rfl) ?_
                          refine d_gl (v := .int .i64 ((el (ranksOf (nodesL xs es) lev) i).2)) (j := 16) (t := 117) rfl rfl rfl rfl rfl (by decide) (fun v357 hw356 => x_load1 T.na3 rfl (((hc354.elem enR_len (i := i) (by omega)).fld 1 rfl).ext hw356)) ?_
                          refine d_gq (v := .int .i64 (((el (ranksOf (nodesL xs es) lev) i).2 - 1))) (j := 16) (t := 117) rfl rfl rfl rfl (by decide) (fun _ => x_sub rfl rfl ⟨by omega, by omega⟩) ?_
                          refine d_e (by decide) (d_c' rfl (wanted_true (j := 16) (t := 117) rfl rfl (by decide)) (t_call [.slice ar ((nodesL xs es).length) cr, .string ((el es k2).2.1)] T.cf24 rfl rfl) (level24 (ranksOf (nodesL xs es) lev) (el es k2).2.1 _ _ (Own.len hF342 hrkl.symm).src) ?_)
                          rintro _ w358 ⟨rfl, hx359⟩
                          refine ⟨_, rfl, ?_⟩
                          have hB360 := hB341.ext hx359
                          have hF361 := hF342.ext hx359
                          have hF362 := hF343.ext hx359
                          have hF363 := hF355.ext hx359
                          have hE364 : Below w0.heap.size w0 w358 := hx359.e hE344 (Nat.le_refl _)
                          have hz365 := hE364.le
                          have hs366 := hx359.size
                          have hS367 := hS347.trans (hx359.mono hS347.size)
                          refine ⟨fun _ => hS367, ?_⟩
                          refine d_gq (v := .bool (decide (((lvl (ranksOf (nodesL xs es) lev) (el es k2).2.1)) = (((el (ranksOf (nodesL xs es) lev) i).2 - 1))))) (j := 16) (t := 117) rfl rfl rfl rfl (by decide) (fun _ => x_eql rfl rfl) ?_
                          refine d_gq (v := .bool (decide (((lvl (ranksOf (nodesL xs es) lev) (el es k2).2.1)) = (((el (ranksOf (nodesL xs es) lev) i).2 - 1))))) (j := 1) (t := 102) rfl rfl rfl rfl (by decide) (fun _ => x_pickT rfl rfl) ?_
                          refine d_q (v := .bool (decide (((lvl (ranksOf (nodesL xs es) lev) (el es k2).2.1)) = (((el (ranksOf (nodesL xs es) lev) i).2 - 1))))) rfl rfl (fun _ => x_pickF rfl rfl) ?_
                          refine d_q (v := .bool (decide (((lvl (ranksOf (nodesL xs es) lev) (el es k2).2.1)) = (((el (ranksOf (nodesL xs es) lev) i).2 - 1))))) rfl rfl (fun _ => x_assign rfl) ?_
                          refine d_done ?_
                          refine kn315 _ _ ?_
                          refine kn311 _ _ ?_
                          refine region ?_
                          refine st_q (v := .int .i64 ((k2 : Nat) : Int)) (x_move rfl) ?_
                          refine st_q (v := .int .i64 (((k2 + 1) : Nat) : Int)) (x_addN rfl rfl (by omega)) ?_
                          refine st_q (v := .int .i64 (((k2 + 1) : Nat) : Int)) (x_assign rfl) ?_
                          refine st_nil ?_
                          refine kn298 _ ((k2 + 1), (decide (((lvl (ranksOf (nodesL xs es) lev) (el es k2).2.1)) = (((el (ranksOf (nodesL xs es) lev) i).2 - 1))))) _ ⟨rfl, rfl, rfl, rfl, rfl, rfl, trivial⟩ ⟨hE364, ?_⟩ ?_
                          ·
                            try dsimp only
                            refine ⟨?_, hB360, hF361, hF362⟩
                            refine ⟨by omega, some_step hrs ?_⟩
                            exact ⟨fun h => .inr ⟨by assumption, inB_iff.1 (by assumption), of_decide_eq_true h⟩, fun h => h.elim (fun h => absurd h (by assumption)) (fun q => decide_eq_true q.2.2)⟩
                          ·
                            (try dsimp only); omega
                        ·
                          refine d_gn (j := 16) (t := 117) rfl rfl rfl rfl (by decide) rfl ?_
                          refine d_gn (j := 16) (t := 117) rfl rfl rfl rfl (by decide) rfl ?_
                          refine d_gn (j := 16) (t := 117) rfl rfl rfl rfl (by decide) rfl ?_
                          refine d_gn (j := 16) (t := 117) rfl rfl rfl rfl (by decide) rfl ?_
                          refine d_gn (j := 16) (t := 117) rfl rfl rfl rfl (by decide) rfl ?_
                          refine d_gn (j := 16) (t := 117) rfl rfl rfl rfl (by decide) rfl ?_
                          refine d_gn (j := 16) (t := 117) rfl rfl rfl rfl (by decide) rfl ?_
                          refine d_gn (j := 16) (t := 117) rfl rfl rfl rfl (by decide) rfl ?_
                          refine d_gn (j := 16) (t := 117) rfl rfl rfl rfl (by decide) rfl ?_
                          refine d_gn (j := 16) (t := 117) rfl rfl rfl rfl (by decide) rfl ?_
                          refine d_gn (j := 16) (t := 117) rfl rfl rfl rfl (by decide) rfl ?_
                          refine d_gn (j := 16) (t := 117) rfl rfl rfl rfl (by decide) rfl ?_
                          refine d_e (by decide) (wpE_skip (j := 16) (t := 117) rfl rfl rfl (by decide) rfl (fun _ => hS347) ?_)
                          refine d_gn (j := 16) (t := 117) rfl rfl rfl rfl (by decide) rfl ?_
                          refine d_gq (v := .bool false) (j := 1) (t := 102) rfl rfl rfl rfl (by decide) (fun _ => x_pickF rfl rfl) ?_
                          refine d_q (v := .bool false) rfl rfl (fun _ => x_pickF rfl rfl) ?_
                          refine d_q (v := .bool false) rfl rfl (fun _ => x_assign rfl) ?_
                          refine d_done ?_
                          refine kn315 _ _ ?_
                          refine kn311 _ _ ?_
                          refine region ?_
                          refine st_q (v := .int .i64 ((k2 : Nat) : Int)) (x_move rfl) ?_
                          refine st_q (v := .int .i64 (((k2 + 1) : Nat) : Int)) (x_addN rfl rfl (by omega)) ?_
                          refine st_q (v := .int .i64 (((k2 + 1) : Nat) : Int)) (x_assign rfl) ?_
                          refine st_nil ?_
                          refine kn298 _ ((k2 + 1), false) _ ⟨rfl, rfl, rfl, rfl, rfl, rfl, trivial⟩ ⟨hE344, ?_⟩ ?_
                          ·
                            try dsimp only
                            refine ⟨?_, hB341, hF342, hF343⟩
                            refine ⟨by omega, some_step hrs ?_⟩
                            exact ⟨fun h => (by cases h), fun h => h.elim (fun h => absurd h (by assumption)) (fun q => by first | exact absurd q.1 (by assumption) | exact absurd (inB_iff.2 q.2.1) (by assumption))⟩
                          ·
                            (try dsimp only); omega
                      ·
                        refine d_gn (j := 7) (t := 108) rfl rfl rfl rfl (by decide) rfl ?_
                        refine d_gn (j := 7) (t := 108) rfl rfl rfl rfl (by decide) rfl ?_
                        refine d_gn (j := 7) (t := 108) rfl rfl rfl rfl (by decide) rfl ?_
                        refine d_gn (j := 7) (t := 108) rfl rfl rfl rfl (by decide) rfl ?_
                        refine d_gn (j := 7) (t := 108) rfl rfl rfl rfl (by decide) rfl ?_
                        refine d_gn (j := 7) (t := 108) rfl rfl rfl rfl (by decide) rfl ?_
                        refine d_e (by decide) (wpE_skip (j := 7) (t := 108) rfl rfl rfl (by decide) rfl (fun _ => hS328) ?_)
                        refine d_gq (v := .bool false) (j := 1) (t := 102) rfl rfl rfl rfl (by decide) (fun _ => x_pickF rfl rfl) ?_
                        refine d_gq (v := .bool false) (j := 1) (t := 102) rfl rfl rfl rfl (by decide) (fun _ => x_move rfl) ?_
                        refine d_gn (j := 16) (t := 117) rfl rfl rfl rfl (by decide) rfl ?_
                        refine d_gn (j := 16) (t := 117) rfl rfl rfl rfl (by decide) rfl ?_
                        refine d_gn (j := 16) (t := 117) rfl rfl rfl rfl (by decide) rfl ?_
                        refine d_gn (j := 16) (t := 117) rfl rfl rfl rfl (by decide) rfl ?_
                        refine d_gn (j := 16) (t := 117) rfl rfl rfl rfl (by decide) rfl ?_
                        refine d_gn (j := 16) (t := 117) rfl rfl rfl rfl (by decide) rfl ?_
                        refine d_gn (j := 16) (t := 117) rfl rfl rfl rfl (by decide) rfl ?_
                        refine d_gn (j := 16) (t := 117) rfl rfl rfl rfl (by decide) rfl ?_
                        refine d_gn (j := 16) (t := 117) rfl rfl rfl rfl (by decide) rfl ?_
                        refine d_gn (j := 16) (t := 117) rfl rfl rfl rfl (by decide) rfl ?_
                        refine d_gn (j := 16) (t := 117) rfl rfl rfl rfl (by decide) rfl ?_
                        refine d_gn (j := 16) (t := 117) rfl rfl rfl rfl (by decide) rfl ?_
                        refine d_e (by decide) (wpE_skip (j := 16) (t := 117) rfl rfl rfl (by decide) rfl (fun _ => hS328) ?_)
                        refine d_gn (j := 16) (t := 117) rfl rfl rfl rfl (by decide) rfl ?_
                        refine d_gq (v := .bool false) (j := 1) (t := 102) rfl rfl rfl rfl (by decide) (fun _ => x_pickF rfl rfl) ?_
                        refine d_q (v := .bool false) rfl rfl (fun _ => x_pickF rfl rfl) ?_
                        refine d_q (v := .bool false) rfl rfl (fun _ => x_assign rfl) ?_
                        refine d_done ?_
                        refine kn315 _ _ ?_
                        refine kn311 _ _ ?_
                        refine region ?_
                        refine st_q (v := .int .i64 ((k2 : Nat) : Int)) (x_move rfl) ?_
                        refine st_q (v := .int .i64 (((k2 + 1) : Nat) : Int)) (x_addN rfl rfl (by omega)) ?_
                        refine st_q (v := .int .i64 (((k2 + 1) : Nat) : Int)) (x_assign rfl) ?_
                        refine st_nil ?_
                        refine kn298 _ ((k2 + 1), false) _ ⟨rfl, rfl, rfl, rfl, rfl, rfl, trivial⟩ ⟨hE325, ?_⟩ ?_
                        ·
                          try dsimp only
                          refine ⟨?_, hB322, hF323, hF324⟩
                          refine ⟨by omega, some_step hrs ?_⟩
                          exact ⟨fun h => (by cases h), fun h => h.elim (fun h => absurd h (by assumption)) (fun q => by first | exact absurd q.1 (by assumption) | exact absurd (inB_iff.2 q.2.1) (by assumption))⟩
                        ·
                          (try dsimp only); omega
                  ·
                    refine exit ?_
                    refine ke304 _ _ _ ?_
                    refine ke300 _ _ _ ?_
                    refine kb288 _ _ ?_
                    refine kn277 _ _ ?_
                    refine seqK fun Q368 kn369 kr370 ke371 => ?_
                    refine region ?_
                    refine st_q (v := .bool rs) (x_move rfl) ?_
                    refine st_q (v := .bool (decide (¬ (rs = true)))) (x_notBB rfl) ?_
                    refine st_nil ?_
                    refine kn369 _ _ ?_
                    refine cnd (p := ¬ (rs = true)) rfl (fun h372 => ?_) (fun h372 => ?_)
                    ·
                      exact absurd h372 (not_not_intro (hrs.2 (by rw [show k2 = es.length by omega]; exact hreas)))
                    ·
                      refine skip ?_
                      refine kn85 _ _ ?_
                      refine kn81 _ _ ?_
                      refine region ?_
                      refine st_q (v := .int .i64 ((i : Nat) : Int)) (x_move rfl) ?_
                      refine st_q (v := .int .i64 (((i + 1) : Nat) : Int)) (x_addN rfl rfl (by omega)) ?_
                      refine st_q (v := .int .i64 (((i + 1) : Nat) : Int)) (x_assign rfl) ?_
                      refine st_nil ?_
                      refine kn68 _ ((i + 1)) _ ⟨rfl, rfl, rfl, trivial⟩ ⟨hx295, ?_⟩ ?_
                      ·
                        try dsimp only
                        refine ⟨?_, hC293⟩
                        omega
                      ·
                        (try dsimp only); omega
        ·
          refine exit ?_
          refine ke74 _ _ _ ?_
          refine ke70 _ _ _ ?_
          refine kb60 _ _ ?_
          refine kn49 _ _ ?_
          refine seqK fun Q373 kn374 kr375 ke376 => ?_
          refine region ?_
          refine st_c (t_call [] T.cf15 rfl rfl) (known15 _) ?_
          rintro _ w377 ⟨rfl, hx378⟩
          refine ⟨_, rfl, ?_⟩
          have hF379 := hC64.ext hx378
          have hE380 : Below w0.heap.size w0 w377 := hx378.e hx65 (Nat.le_refl _)
          have hz381 := hE380.le
          have hs382 := hx378.size
          refine st_q (v := .bool true) (x_assign rfl) ?_
          refine st_nil ?_
          refine kn374 _ _ ?_
          refine ret ?_
          refine leave1 (P := Try.prog) (fn := Try.f6) (t := 4) (v := .bool true) rfl rfl ?_
          exact ⟨rfl, hE380⟩

end Go.Proofs.Ytknfjgbipfpnjaa
