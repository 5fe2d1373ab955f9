import Derived.Test.YtknfjgbipfpnjaaG8
namespace Go.Proofs.Ytknfjgbipfpnjaa
open Go.RowKit Go.Eng Go.OrdPure
theorem T.cf34 : CF Try.prog 34 := fun _ _ => by kernel_rfl

set_option maxHeartbeats 4000000 in
theorem refreach32 (es : List Edge) (fs : List ByteArray) (va vb : Value) (w0 : World) (ha : Src w0.heap va es.length 3 (flat enE es)) (hb : Src w0.heap vb fs.length 1 (flat enS fs)) (hn : fs.length + 2 * es.length ≤ 4194000) : Calls Try.prog 32 #[va, vb] w0 fun e w' => ∃ v R, e = .returned v ∧ Ext w0 w' ∧ IsR es fs R ∧ Own w'.heap w0.heap.size 9 1 v R.length (flat enS R) := by
  have hE0 : Below w0.heap.size w0 w0 := Below.refl _ _
  have hz0 := hE0.le
  obtain ⟨a, ca, rfl, hca, hca1⟩ := ha.form
  obtain ⟨b, cb, rfl, hcb, hcb1⟩ := hb.form
  refine enter Try.func32 rfl 49 Try.ntmps32 rfl ?_
  refine seqK fun Q1 kn2 kr3 ke4 => ?_
  refine region ?_
  refine st_q (v := .slice none 0 0) (x_assign rfl) ?_
  refine st_nil ?_
  refine kn2 _ _ ?_
  refine seqK fun Q5 kn6 kr7 ke8 => ?_
  refine region ?_
  refine st_q (v := .slice none 0 0) (x_assign rfl) ?_
  refine st_nil ?_
  refine kn6 _ _ ?_
  refine seqK fun Q9 kn10 kr11 ke12 => ?_
  refine seqK fun Q13 kn14 kr15 ke16 => ?_
  refine region ?_
  refine st_q (v := .int .i64 ((0 : Nat) : Int)) (x_assign rfl) ?_
  refine st_nil ?_
  refine kn14 _ _ ?_
  refine blockK fun Q17 kn18 kr19 kx20 kb21 => ?_
  refine loopK (α := Nat × Value × (List ByteArray)) (fun x => [(0, .slice a es.length ca), (1, .slice b fs.length cb), (5, x.2.1), (6, .int .i64 ((x.1 : Nat) : Int))]) (fun x w22 => Below w0.heap.size w0 w22 ∧ x.1 ≤ fs.length ∧ x.2.2 = namesL (fs.take x.1) ∧ x.2.2.length ≤ x.1 ∧ Own w22.heap w0.heap.size 9 1 x.2.1 x.2.2.length (flat enS x.2.2)) (fun x => fs.length - x.1) (0, .slice none 0 0, []) ⟨rfl, rfl, rfl, rfl, trivial⟩ ?_ ?_
  ·
    refine ⟨hE0, ?_⟩
    try dsimp only
    exact ⟨Nat.zero_le _, rfl, Nat.le_refl _, Own.nil _ _ _ _⟩
  ·
    rintro τ23 ⟨i, v, L⟩ w24 ⟨hx25, ⟨hi, hL, hLl, hO⟩⟩
    try dsimp only at hi hL hLl hO
    have hz26 := hx25.le
    intro Q27 kn28 kr29 ke30
    refine seqK fun Q31 kn32 kr33 ke34 => ?_
    refine seqK fun Q35 kn36 kr37 ke38 => ?_
    refine region ?_
    refine st_q (v := .int .i64 ((i : Nat) : Int)) (x_move rfl) ?_
    refine st_q (v := .slice b fs.length cb) (x_move rfl) ?_
    refine st_q (v := .int .i64 ((fs.length : Nat) : Int)) (x_lenSl rfl Try.underlying22 rfl) ?_
    refine st_q (v := .bool (decide (i < fs.length))) (x_lssN rfl rfl) ?_
    refine st_nil ?_
    refine kn36 _ _ ?_
    refine cnd (p := i < fs.length) rfl (fun h39 => ?_) (fun h39 => ?_)
    ·
      refine skip ?_
      refine kn32 _ _ ?_
      refine seqK fun Q40 kn41 kr42 ke43 => ?_
      refine blockK fun Q44 kn45 kr46 kx47 kb48 => ?_
      refine region ?_
      refine st_q (v := v) (x_move rfl) ?_
      refine st_q (v := .slice b fs.length cb) (x_move rfl) ?_
      refine st_q (v := .int .i64 ((i : Nat) : Int)) (x_move rfl) ?_
      obtain ⟨b49, o50, ha51, hc52⟩ := hb.at (by omega)
      refine st_q (v := .pointer (some ⟨b49, o50 + i * 1, none⟩)) (x_index' T.sl22 rfl ha51 rfl (by omega)) ?_
      refine st_q (v := .string (el fs i)) (x_load1 T.na9 rfl ((hc52.below hx25).elem enS_len (i := i) (by omega))) ?_
      refine st_c (t_call [v, .string (el fs i)] T.cf49 rfl rfl) (put49 w0.heap.size L (el fs i) _ _ hO (by omega) (by omega)) ?_
      rintro _ w53 ⟨v55, rfl, hx54, hO56⟩
      refine ⟨_, rfl, ?_⟩
      have hpl57 := putL_len L (el fs i)
      have hE58 : Below w0.heap.size w0 w53 := hx54.e hx25 (Nat.le_refl _)
      have hz59 := hE58.le
      have hs60 := hx54.size
      refine st_q (v := v55) (x_assign rfl) ?_
      refine st_nil ?_
      refine kn45 _ _ ?_
      refine kn41 _ _ ?_
      refine region ?_
      refine st_q (v := .int .i64 ((i : Nat) : Int)) (x_move rfl) ?_
      refine st_q (v := .int .i64 (((i + 1) : Nat) : Int)) (x_addN rfl rfl (by omega)) ?_
      refine st_q (v := .int .i64 (((i + 1) : Nat) : Int)) (x_assign rfl) ?_
      refine st_nil ?_
      refine kn28 _ ((i + 1), v55, (putL L (el fs i))) _ ⟨rfl, rfl, rfl, rfl, trivial⟩ ⟨hE58, ?_⟩ ?_
      ·
        try dsimp only
        exact ⟨by omega, by rw [take_succ_el (by omega), namesL_snoc, hL], by omega, hO56⟩
      ·
        (try dsimp only); omega
    ·
      refine exit ?_
      refine ke34 _ _ _ ?_
      refine ke30 _ _ _ ?_
      refine kb21 _ _ ?_
      refine kn10 _ _ ?_
      refine blockK fun Q61 kn62 kr63 kx64 kb65 => ?_
      refine loopK (α := Value × (List ByteArray)) (fun x => [(0, .slice a es.length ca), (5, x.1)]) (fun x w66 => Below w0.heap.size w0 w66 ∧ SX x.2 ∧ (∀ s ∈ x.2, Rch es fs s) ∧ (∀ s ∈ fs, s ∈ x.2) ∧ Own w66.heap w0.heap.size 9 1 x.1 x.2.length (flat enS x.2)) (fun x => fs.length + es.length + 1 - x.2.length) (v, L) ⟨rfl, rfl, trivial⟩ ?_ ?_
      ·
        refine ⟨hx25, ?_⟩
        try dsimp only
        obtain rfl : i = fs.length := by omega
        rw [List.take_length] at hL
        subst hL
        exact ⟨namesL_SX fs, fun s hs => .here (namesL_mem.1 hs), fun s hs => namesL_mem.2 hs, hO⟩
      ·
        rintro τ67 ⟨v, L⟩ w68 ⟨hx69, ⟨hx1, hx2, hx3, hO⟩⟩
        try dsimp only at hx1 hx2 hx3 hO
        have hz70 := hx69.le
        intro Q71 kn72 kr73 ke74
        obtain ⟨a75, c76, rfl, _, _⟩ := hO.src.form
        refine blockK fun Q77 kn78 kr79 kx80 kb81 => ?_
        refine seqK fun Q82 kn83 kr84 ke85 => ?_
        refine region ?_
        refine st_q (v := .slice a75 L.length c76) (x_move rfl) ?_
        refine st_q (v := .int .i64 ((L.length : Nat) : Int)) (x_lenSl rfl Try.underlying22 rfl) ?_
        refine st_q (v := .int .i64 ((L.length : Nat) : Int)) (x_assign rfl) ?_
        refine st_nil ?_
        refine kn83 _ _ ?_
        refine seqK fun Q86 kn87 kr88 ke89 => ?_
        refine seqK fun Q90 kn91 kr92 ke93 => ?_
        refine region ?_
        refine st_q (v := .int .i64 ((0 : Nat) : Int)) (x_assign rfl) ?_
        refine st_nil ?_
        refine kn91 _ _ ?_
        refine blockK fun Q94 kn95 kr96 kx97 kb98 => ?_
        refine loopK (α := Nat × Value × (List ByteArray)) (fun x => [(0, .slice a es.length ca), (5, x.2.1), (7, .int .i64 ((L.length : Nat) : Int)), (8, .int .i64 ((x.1 : Nat) : Int))]) (fun x w99 => Below w0.heap.size w0 w99 ∧ x.1 ≤ es.length ∧ Round es fs L x.2.2 x.1 ∧ Own w99.heap w0.heap.size 9 1 x.2.1 x.2.2.length (flat enS x.2.2)) (fun x => es.length - x.1) (0, .slice a75 L.length c76, L) ⟨rfl, rfl, rfl, rfl, trivial⟩ ?_ ?_
        ·
          refine ⟨hx69, ?_⟩
          try dsimp only
          exact ⟨Nat.zero_le _, Round.start hx1 hx2 hx3, hO⟩
        ·
          rintro τ100 ⟨k, v2, L2⟩ w101 ⟨hx102, ⟨hk, hR, hO2⟩⟩
          try dsimp only at hk hR hO2
          have hz103 := hx102.le
          intro Q104 kn105 kr106 ke107
          have hRb := hR.bnd
          refine seqK fun Q108 kn109 kr110 ke111 => ?_
          refine seqK fun Q112 kn113 kr114 ke115 => ?_
          refine region ?_
          refine st_q (v := .int .i64 ((k : Nat) : Int)) (x_move rfl) ?_
          refine st_q (v := .slice a es.length ca) (x_move rfl) ?_
          refine st_q (v := .int .i64 ((es.length : Nat) : Int)) (x_lenSl rfl Try.underlying23 rfl) ?_
          refine st_q (v := .bool (decide (k < es.length))) (x_lssN rfl rfl) ?_
          refine st_nil ?_
          refine kn113 _ _ ?_
          refine cnd (p := k < es.length) rfl (fun h116 => ?_) (fun h116 => ?_)
          ·
            refine skip ?_
            refine kn109 _ _ ?_
            refine seqK fun Q117 kn118 kr119 ke120 => ?_
            refine blockK fun Q121 kn122 kr123 kx124 kb125 => ?_
            refine seqK fun Q126 kn127 kr128 ke129 => ?_
            refine region ?_
            refine st_q (v := v2) (x_move rfl) ?_
            refine st_q (v := .slice a es.length ca) (x_move rfl) ?_
            refine st_q (v := .int .i64 ((k : Nat) : Int)) (x_move rfl) ?_
            obtain ⟨b130, o131, ha132, hc133⟩ := ha.at (by omega)
            refine st_q (v := .pointer (some ⟨b130, o131 + k * 3, none⟩)) (x_index' T.sl23 rfl ha132 rfl (by omega)) ?_
            refine st_q (v := .pointer (some ⟨b130, o131 + k * 3, none⟩)) (x_field (o := o131 + k * 3) T.fa47_0 rfl) ?_
            refine st_q (v := .string ((el es k).1)) (x_load1 T.na9 rfl (((hc133.below hx102).elem enE_len (i := k) (by omega)).fld 0 rfl)) ?_
            refine st_c (t_call [v2, .string ((el es k).1)] T.cf44 rfl rfl) (place44 L2 (el es k).1 _ _ hO2.src) ?_
            rintro _ w134 ⟨rfl, hx135⟩
            refine ⟨_, rfl, ?_⟩
            have hF136 := hO2.ext hx135
            have hE137 : Below w0.heap.size w0 w134 := hx135.e hx102 (Nat.le_refl _)
            have hz138 := hE137.le
            have hs139 := hx135.size
            refine st_q (v := .bool (decide (0 ≤ ((pl L2 (el es k).1))))) (x_geq rfl rfl) ?_
            refine st_nil ?_
            refine kn127 _ _ ?_
            refine cnd (p := 0 ≤ ((pl L2 (el es k).1))) rfl (fun h140 => ?_) (fun h140 => ?_)
            ·
              refine region ?_
              refine st_q (v := v2) (x_move rfl) ?_
              refine st_q (v := .slice a es.length ca) (x_move rfl) ?_
              refine st_q (v := .int .i64 ((k : Nat) : Int)) (x_move rfl) ?_
              refine st_q (v := .pointer (some ⟨b130, o131 + k * 3, none⟩)) (x_index' T.sl23 rfl ha132 rfl (by omega)) ?_
              refine st_q (v := .pointer (some ⟨b130, o131 + k * 3 + 1, none⟩)) (x_field (o := o131 + k * 3) T.fa47_1 rfl) ?_
              refine st_q (v := .string ((el es k).2.1)) (x_load1 T.na9 rfl (((hc133.below hE137).elem enE_len (i := k) (by omega)).fld 1 rfl)) ?_
              refine st_c (t_call [v2, .string ((el es k).2.1)] T.cf49 rfl rfl) (put49 w0.heap.size L2 (el es k).2.1 _ _ hF136 (by omega) (by omega)) ?_
              rintro _ w141 ⟨v143, rfl, hx142, hO144⟩
              refine ⟨_, rfl, ?_⟩
              have hpl145 := putL_len L2 (el es k).2.1
              have hE146 : Below w0.heap.size w0 w141 := hx142.e hE137 (Nat.le_refl _)
              have hz147 := hE146.le
              have hs148 := hx142.size
              refine st_q (v := v143) (x_assign rfl) ?_
              refine st_nil ?_
              refine kn122 _ _ ?_
              refine kn118 _ _ ?_
              refine region ?_
              refine st_q (v := .int .i64 ((k : Nat) : Int)) (x_move rfl) ?_
              refine st_q (v := .int .i64 (((k + 1) : Nat) : Int)) (x_addN rfl rfl (by omega)) ?_
              refine st_q (v := .int .i64 (((k + 1) : Nat) : Int)) (x_assign rfl) ?_
              refine st_nil ?_
              refine kn105 _ ((k + 1), v143, (putL L2 (el es k).2.1)) _ ⟨rfl, rfl, rfl, rfl, trivial⟩ ⟨hE146, ?_⟩ ?_
              ·
                try dsimp only
                exact ⟨by omega, hR.hit (by omega) (inB_iff.1 (pl_ge.1 (by assumption))), hO144⟩
              ·
                (try dsimp only); omega
            ·
              refine skip ?_
              refine kn122 _ _ ?_
              refine kn118 _ _ ?_
              refine region ?_
              refine st_q (v := .int .i64 ((k : Nat) : Int)) (x_move rfl) ?_
              refine st_q (v := .int .i64 (((k + 1) : Nat) : Int)) (x_addN rfl rfl (by omega)) ?_
              refine st_q (v := .int .i64 (((k + 1) : Nat) : Int)) (x_assign rfl) ?_
              refine st_nil ?_
              refine kn105 _ ((k + 1), v2, L2) _ ⟨rfl, rfl, rfl, rfl, trivial⟩ ⟨hE137, ?_⟩ ?_
              ·
                try dsimp only
                exact ⟨by omega, hR.miss (fun hm => absurd (pl_ge.2 (inB_iff.2 hm)) (by assumption)), hF136⟩
              ·
                (try dsimp only); omega
          ·
            refine exit ?_
            refine ke111 _ _ _ ?_
            refine ke107 _ _ _ ?_
            refine kb98 _ _ ?_
            refine kn87 _ _ ?_
            refine seqK fun Q149 kn150 kr151 ke152 => ?_
            refine region ?_
            obtain ⟨a153, c154, rfl, _, _⟩ := hO2.src.form
            refine st_q (v := .slice a153 L2.length c154) (x_move rfl) ?_
            refine st_q (v := .int .i64 ((L2.length : Nat) : Int)) (x_lenSl rfl Try.underlying22 rfl) ?_
            refine st_q (v := .int .i64 ((L.length : Nat) : Int)) (x_move rfl) ?_
            refine st_q (v := .bool (decide (L2.length = L.length))) (x_eqlN rfl rfl) ?_
            refine st_nil ?_
            refine kn150 _ _ ?_
            refine cnd (p := L2.length = L.length) rfl (fun h155 => ?_) (fun h155 => ?_)
            ·
              refine seqK fun Q156 kn157 kr158 ke159 => ?_
              refine region ?_
              refine st_q (v := .slice a153 L2.length c154) (x_move rfl) ?_
              refine st_q (v := .slice a153 L2.length c154) (x_assign rfl) ?_
              refine st_nil ?_
              refine kn157 _ _ ?_
              refine ret ?_
              refine kr79 _ _ ?_
              refine kr73 _ _ ?_
              refine kr63 _ _ ?_
              refine leave1 (P := Try.prog) (fn := Try.f32) (t := 4) (v := .slice a153 L2.length c154) rfl rfl ?_
              obtain rfl : k = es.length := by omega
              exact ⟨_, L2, rfl, hx102, hR.done hx1 (by omega), hO2⟩
            ·
              refine skip ?_
              refine kn78 _ _ ?_
              refine kn72 _ (.slice a153 L2.length c154, L2) _ ⟨rfl, rfl, trivial⟩ ⟨hx102, ?_⟩ ?_
              ·
                try dsimp only
                exact ⟨hR.sx, hR.snd, hR.frm, hO2⟩
              ·
                have := hR.bnd
                have := hR.len
                (try dsimp only)
                omega

set_option maxHeartbeats 4000000 in
theorem nodes30 (fs : List ByteArray) (es : List Edge) (va vb : Value) (w0 : World) (ha : Src w0.heap va fs.length 1 (flat enS fs)) (hb : Src w0.heap vb es.length 3 (flat enE es)) (hfx : FitS fs) (hfe : FitE es) (hn : fs.length + 2 * es.length ≤ 2097152) : Calls Try.prog 30 #[va, vb] w0 fun e w' => ∃ v, e = .returned v ∧ Ext w0 w' ∧ Own w'.heap w0.heap.size 9 1 v (nodesL fs es).length (flat enS (nodesL fs es)) := by
  have hE0 : Below w0.heap.size w0 w0 := Below.refl _ _
  have hz0 := hE0.le
  obtain ⟨a, ca, rfl, hca, hca1⟩ := ha.form
  obtain ⟨b, cb, rfl, hcb, hcb1⟩ := hb.form
  refine enter Try.func30 rfl 11 Try.ntmps30 rfl ?_
  refine seqK fun Q1 kn2 kr3 ke4 => ?_
  refine region ?_
  refine st_q (v := .slice none 0 0) (x_assign rfl) ?_
  refine st_nil ?_
  refine kn2 _ _ ?_
  refine seqK fun Q5 kn6 kr7 ke8 => ?_
  refine region ?_
  refine st_q (v := .slice a fs.length ca) (x_move rfl) ?_
  refine st_q (v := .slice b es.length cb) (x_move rfl) ?_
  refine st_c (t_call [.slice a fs.length ca, .slice b es.length cb] T.cf35 rfl rfl) (laid35 fs es _ _ _ ((ha.below hE0)) (hb.below hE0) hfx hfe (by first | omega | (simp; omega))) ?_
  rintro _ w9 ⟨g, D, rfl, hx10, hDlo, hN⟩
  refine ⟨_, rfl, ?_⟩
  have hsz1 := hx10.size
  have hE11 : Below w9.heap.size w9 w9 := Below.refl _ _
  have hz12 := hE11.le
  obtain ⟨ns, hns⟩ : ∃ n, n = nodesL fs es := ⟨_, rfl⟩
  rw [← hns] at hN
  have hfit := hN.fit
  have hvlen := hN.vlen
  have hends := hN.ends
  refine st_q (v := .pointer (some ⟨g, 0, none⟩)) (x_nilCheck rfl) ?_
  refine st_q (v := .pointer (some ⟨g, 0, none⟩)) (x_field (o := 0) T.fa65_0 rfl) ?_
  refine st_q (v := .slice D.na ns.length D.nc) (x_load1 T.na22 rfl ((hN.blk.keep (hE11.block _ hN.blk.lt)).one 0 rfl)) ?_
  refine st_q (v := .slice D.na ns.length D.nc) (x_assign rfl) ?_
  refine st_nil ?_
  refine kn6 _ _ ?_
  refine ret ?_
  refine leave1 (P := Try.prog) (fn := Try.f30) (t := 4) (v := .slice D.na ns.length D.nc) rfl rfl ?_
  subst hns
  exact ⟨_, rfl, (Below.e hE11 hx10 (Nat.le_refl _)), by have := hN.nodes; rw [hDlo] at this; exact this⟩

set_option maxHeartbeats 4000000 in
theorem part23 (P : List (List ByteArray)) (vs : List Value) (z : ByteArray) (va : Value) (w0 : World) (hP : RowsIn w0.heap va vs P) : Calls Try.prog 23 #[va, .string z] w0 fun e w' => e = .returned (.int .i64 (prt P z)) ∧ Ext w0 w' := by
  have hE0 : Below w0.heap.size w0 w0 := Below.refl _ _
  have hz0 := hE0.le
  have hva := hP.len
  obtain ⟨a, ca, rfl, hca, hca1⟩ := hP.src.form
  refine enter Try.func23 rfl 32 Try.ntmps23 rfl ?_
  refine seqK fun Q1 kn2 kr3 ke4 => ?_
  refine region ?_
  refine st_q (v := .int .i64 ((0 : Nat) : Int)) (x_assign rfl) ?_
  refine st_nil ?_
  refine kn2 _ _ ?_
  refine seqK fun Q5 kn6 kr7 ke8 => ?_
  refine seqK fun Q9 kn10 kr11 ke12 => ?_
  refine region ?_
  refine st_q (v := .int .i64 ((0 : Nat) : Int)) (x_assign rfl) ?_
  refine st_nil ?_
  refine kn10 _ _ ?_
  refine blockK fun Q13 kn14 kr15 kx16 kb17 => ?_
  refine loopK (α := Nat) (fun x => [(0, .slice a P.length ca), (1, .string z), (5, .int .i64 ((x : Nat) : Int))]) (fun x w18 => Ext w0 w18 ∧ x ≤ P.length ∧ ∀ j, j < x → ¬ z ∈ el P j) (fun x => P.length - x) (0) ⟨rfl, rfl, rfl, trivial⟩ ?_ ?_
  ·
    refine ⟨Below.refl _ _, ?_⟩
    try dsimp only
    exact ⟨Nat.zero_le _, fun j h => by omega⟩
  ·
    rintro τ19 i w20 ⟨hx21, ⟨hi, hI⟩⟩
    try dsimp only at hi hI
    have hE22 : Below w0.heap.size w0 w20 := hx21.e hE0 (Nat.le_refl _)
    have hz23 := hE22.le
    have hs24 := hx21.size
    intro Q25 kn26 kr27 ke28
    refine seqK fun Q29 kn30 kr31 ke32 => ?_
    refine seqK fun Q33 kn34 kr35 ke36 => ?_
    refine region ?_
    refine st_q (v := .int .i64 ((i : Nat) : Int)) (x_move rfl) ?_
    refine st_q (v := .slice a P.length ca) (x_move rfl) ?_
    refine st_q (v := .int .i64 ((P.length : Nat) : Int)) (x_lenSl rfl Try.underlying26 rfl) ?_
    refine st_q (v := .bool (decide (i < P.length))) (x_lssN rfl rfl) ?_
    refine st_nil ?_
    refine kn34 _ _ ?_
    refine cnd (p := i < P.length) rfl (fun h37 => ?_) (fun h37 => ?_)
    ·
      refine skip ?_
      refine kn30 _ _ ?_
      refine seqK fun Q38 kn39 kr40 ke41 => ?_
      refine blockK fun Q42 kn43 kr44 kx45 kb46 => ?_
      refine seqK fun Q47 kn48 kr49 ke50 => ?_
      refine region ?_
      refine st_q (v := .int .i64 ((0 : Nat) : Int)) (x_assign rfl) ?_
      refine st_nil ?_
      refine kn48 _ _ ?_
      refine blockK fun Q51 kn52 kr53 kx54 kb55 => ?_
      refine loopK (α := Nat) (fun x => [(0, .slice a P.length ca), (1, .string z), (5, .int .i64 ((i : Nat) : Int)), (6, .int .i64 ((x : Nat) : Int))]) (fun x w56 => Ext w20 w56 ∧ x ≤ (el P i).length ∧ ∀ j, j < x → ¬ (el (el P i) j).toList = z.toList) (fun x => (el P i).length - x) (0) ⟨rfl, rfl, rfl, rfl, trivial⟩ ?_ ?_
      ·
        refine ⟨Below.refl _ _, ?_⟩
        try dsimp only
        exact ⟨Nat.zero_le _, fun j h => by omega⟩
      ·
        rintro τ57 k w58 ⟨hx59, ⟨hk, hK⟩⟩
        try dsimp only at hk hK
        have hF60 := hx59.e hx21 (Nat.le_refl _)
        have hE61 : Below w0.heap.size w0 w58 := hx59.e hE22 (Nat.le_refl _)
        have hz62 := hE61.le
        have hs63 := hx59.size
        intro Q64 kn65 kr66 ke67
        refine seqK fun Q68 kn69 kr70 ke71 => ?_
        refine seqK fun Q72 kn73 kr74 ke75 => ?_
        refine region ?_
        refine st_q (v := .int .i64 ((k : Nat) : Int)) (x_move rfl) ?_
        refine st_q (v := .slice a P.length ca) (x_move rfl) ?_
        refine st_q (v := .int .i64 ((i : Nat) : Int)) (x_move rfl) ?_
        obtain ⟨b76, o77, ha78, hc79⟩ := hP.src.at (by omega)
        refine st_q (v := .pointer (some ⟨b76, o77 + i * 1, none⟩)) (x_index' T.sl26 rfl ha78 rfl (by omega)) ?_
        obtain ⟨q80, c81, e82, hs83⟩ := hP.row i (by omega)
        have hcp84 := hs83.capl
        refine st_q (v := .slice q80 ((el P i).length) c81) (x_load1 T.na22 rfl (Cells.conv ((hc79.below hE61).elem enV_len (i := i) (by omega)) e82)) ?_
        refine st_q (v := .int .i64 (((el P i).length : Nat) : Int)) (x_lenSl rfl Try.underlying22 rfl) ?_
        refine st_q (v := .bool (decide (k < ((el P i).length)))) (x_lssN rfl rfl) ?_
        refine st_nil ?_
        refine kn73 _ _ ?_
        refine cnd (p := k < ((el P i).length)) rfl (fun h85 => ?_) (fun h85 => ?_)
        ·
          refine skip ?_
          refine kn69 _ _ ?_
          refine seqK fun Q86 kn87 kr88 ke89 => ?_
          refine blockK fun Q90 kn91 kr92 kx93 kb94 => ?_
          refine seqK fun Q95 kn96 kr97 ke98 => ?_
          refine region ?_
          refine st_q (v := .slice a P.length ca) (x_move rfl) ?_
          refine st_q (v := .int .i64 ((i : Nat) : Int)) (x_move rfl) ?_
          refine st_q (v := .pointer (some ⟨b76, o77 + i * 1, none⟩)) (x_index' T.sl26 rfl ha78 rfl (by omega)) ?_
          obtain ⟨q99, c100, e101, hs102⟩ := hP.row i (by omega)
          have hcp103 := hs102.capl
          refine st_q (v := .slice q99 ((el P i).length) c100) (x_load1 T.na22 rfl (Cells.conv ((hc79.below hE61).elem enV_len (i := i) (by omega)) e101)) ?_
          refine st_q (v := .int .i64 ((k : Nat) : Int)) (x_move rfl) ?_
          obtain ⟨b104, o105, ha106, hc107⟩ := hs102.at (by omega)
          refine st_q (v := .pointer (some ⟨b104, o105 + k * 1, none⟩)) (x_index' T.sl22 rfl ha106 rfl (by omega)) ?_
          refine st_q (v := .string (el (el P i) k)) (x_load1 T.na9 rfl ((hc107.below hE61).elem enS_len (i := k) (by omega))) ?_
          refine st_q (v := .string z) (x_move rfl) ?_
          refine st_q (v := .bool (decide ((el (el P i) k).toList = z.toList))) (x_eqlS rfl rfl) ?_
          refine st_nil ?_
          refine kn96 _ _ ?_
          refine cnd (p := (el (el P i) k).toList = z.toList) rfl (fun h108 => ?_) (fun h108 => ?_)
          ·
            refine seqK fun Q109 kn110 kr111 ke112 => ?_
            refine region ?_
            refine st_q (v := .int .i64 ((i : Nat) : Int)) (x_move rfl) ?_
            refine st_q (v := .int .i64 ((i : Nat) : Int)) (x_assign rfl) ?_
            refine st_nil ?_
            refine kn110 _ _ ?_
            refine ret ?_
            refine kr92 _ _ ?_
            refine kr88 _ _ ?_
            refine kr66 _ _ ?_
            refine kr53 _ _ ?_
            refine kr44 _ _ ?_
            refine kr40 _ _ ?_
            refine kr27 _ _ ?_
            refine kr15 _ _ ?_
            refine kr7 _ _ ?_
            refine leave1 (P := Try.prog) (fn := Try.f23) (t := 4) (v := .int .i64 ((i : Nat) : Int)) rfl rfl ?_
            exact ⟨by rw [prt_at (by omega) (by omega) (by assumption) hI], hE61⟩
          ·
            refine skip ?_
            refine kn91 _ _ ?_
            refine kn87 _ _ ?_
            refine region ?_
            refine st_q (v := .int .i64 ((k : Nat) : Int)) (x_move rfl) ?_
            refine st_q (v := .int .i64 (((k + 1) : Nat) : Int)) (x_addN rfl rfl (by omega)) ?_
            refine st_q (v := .int .i64 (((k + 1) : Nat) : Int)) (x_assign rfl) ?_
            refine st_nil ?_
            refine kn65 _ ((k + 1)) _ ⟨rfl, rfl, rfl, rfl, trivial⟩ ⟨hx59, ?_⟩ ?_
            ·
              try dsimp only
              exact ⟨by omega, fun j h => by
                by_cases he : j = k
                · subst he; assumption
                · exact hK j (by omega)⟩
            ·
              (try dsimp only); omega
        ·
          refine exit ?_
          refine ke71 _ _ _ ?_
          refine ke67 _ _ _ ?_
          refine kb55 _ _ ?_
          refine kn43 _ _ ?_
          refine kn39 _ _ ?_
          refine region ?_
          refine st_q (v := .int .i64 ((i : Nat) : Int)) (x_move rfl) ?_
          refine st_q (v := .int .i64 (((i + 1) : Nat) : Int)) (x_addN rfl rfl (by omega)) ?_
          refine st_q (v := .int .i64 (((i + 1) : Nat) : Int)) (x_assign rfl) ?_
          refine st_nil ?_
          refine kn26 _ ((i + 1)) _ ⟨rfl, rfl, rfl, trivial⟩ ⟨hF60, ?_⟩ ?_
          ·
            try dsimp only
            exact ⟨by omega, fun j h => by
              by_cases he : j = i
              · subst he; exact notmem_el (fun j hj => hK j (by omega))
              · exact hI j (by omega)⟩
          ·
            (try dsimp only); omega
    ·
      refine exit ?_
      refine ke32 _ _ _ ?_
      refine ke28 _ _ _ ?_
      refine kb17 _ _ ?_
      refine kn6 _ _ ?_
      refine seqK fun Q113 kn114 kr115 ke116 => ?_
      refine region ?_
      refine st_q (v := .int .i64 (-1)) (x_assign rfl) ?_
      refine st_nil ?_
      refine kn114 _ _ ?_
      refine ret ?_
      refine leave1 (P := Try.prog) (fn := Try.f23) (t := 4) (v := .int .i64 (-1)) rfl rfl ?_
      exact ⟨by rw [prt_no (fun j hj => hI j (by omega))], hE22⟩

theorem Src.front {α : Type} {enc : α → List Value} {h : Array Obj} {k : Nat} (hk : ∀ x, (enc x).length = k) {a : Option Addr} {c : Nat} {xs : List α} {x : α} (hs : Src h (.slice a (xs.length + 1) c) (xs.length + 1) k (flat enc (xs ++ [x]))) : Src h (.slice a xs.length c) xs.length k (flat enc xs) := by
  have := Src.take hk hs (j := xs.length) (by omega) (by simp)
  rwa [List.take_left] at this
set_option maxHeartbeats 4000000 in
theorem left14 (xs : List ByteArray) (es : List Edge) (aa bb : Option Addr) (ca cb : Nat) (vl vy : Value) (w0 : World) (hm : Src w0.heap (.slice aa (xs.length + 1) ca) (xs.length + 1) 1 (flat enS (xs ++ [(ByteArray.mk #[109, 97, 114, 107])]))) (hl : Src w0.heap vl xs.length 1 (flat enS xs)) (hx : Src w0.heap (.slice bb (es.length + 1) cb) (es.length + 1) 3 (flat enE (es ++ [((ByteArray.mk #[109, 97, 114, 107]), ByteArray.empty, false)]))) (hy : Src w0.heap vy es.length 3 (flat enE es)) : Calls Try.prog 14 #[.slice aa xs.length ca, vl, .slice bb es.length cb, vy] w0 fun e w' => e = .returned (.bool true) ∧ Ext w0 w' := by
  have hE0 : Below w0.heap.size w0 w0 := Below.refl _ _
  have hz0 := hE0.le
  obtain ⟨al, cl, rfl, hcl, hcl1⟩ := hl.form
  obtain ⟨ay, cy, rfl, hcy, hcy1⟩ := hy.form
  have hca := hm.capl
  have hcb := hx.capl
  have hal : (xs ++ [(ByteArray.mk #[109, 97, 114, 107])]).length = xs.length + 1 := by simp
  have hbl : (es ++ [(((ByteArray.mk #[109, 97, 114, 107]), ByteArray.empty, false) : Edge)]).length = es.length + 1 := by simp
  refine enter Try.func14 rfl 42 Try.ntmps14 rfl ?_
  refine seqK fun Q1 kn2 kr3 ke4 => ?_
  refine region ?_
  refine st_q (v := .bool false) (x_assign rfl) ?_
  refine st_nil ?_
  refine kn2 _ _ ?_
  refine seqK fun Q5 kn6 kr7 ke8 => ?_
  refine region ?_
  refine st_q (v := .slice aa xs.length ca) (x_move rfl) ?_
  refine st_q (v := .slice al xs.length cl) (x_move rfl) ?_
  refine st_c (t_call [.slice aa xs.length ca, .slice al xs.length cl] T.cf29 rfl rfl) (same29 xs xs _ _ _ ((Src.front enS_len hm).below hE0) (hl.below hE0)) ?_
  rintro _ w9 ⟨e, hx10⟩
  rw [decide_eq_true rfl] at e
  subst e
  refine ⟨_, rfl, ?_⟩
  have hE11 : Below w0.heap.size w0 w9 := hx10.e hE0 (Nat.le_refl _)
  have hz12 := hE11.le
  have hs13 := hx10.size
  refine st_q (v := .bool true) (x_move rfl) ?_
  refine st_gq 3 12 rfl rfl (by decide) ?_
  refine st_q (v := .slice aa xs.length ca) (x_move rfl) ?_
  refine st_gq 3 12 rfl rfl (by decide) ?_
  refine st_q (v := .slice al xs.length cl) (x_move rfl) ?_
  refine st_gq 3 12 rfl rfl (by decide) ?_
  refine st_q (v := .int .i64 ((xs.length : Nat) : Int)) (x_lenSl rfl Try.underlying22 rfl) ?_
  refine st_gq 3 12 rfl rfl (by decide) ?_
  refine st_q (v := .int .i64 (((xs.length + 1) : Nat) : Int)) (x_addN rfl rfl (by omega)) ?_
  refine st_gq 3 12 rfl rfl (by decide) ?_
  refine st_q (v := .slice aa ((xs.length + 1)) ca) (x_sliceHi T.sl22 rfl rfl (by omega)) ?_
  refine st_gq 3 12 rfl rfl (by decide) ?_
  refine st_q (v := .slice al xs.length cl) (x_move rfl) ?_
  refine st_gq 3 12 rfl rfl (by decide) ?_
  refine st_q (v := .int .i64 ((xs.length : Nat) : Int)) (x_lenSl rfl Try.underlying22 rfl) ?_
  refine st_gq 3 12 rfl rfl (by decide) ?_
  obtain ⟨b14, o15, ha16, hc17⟩ := hm.at (by omega)
  refine st_q (v := .pointer (some ⟨b14, o15 + xs.length * 1, none⟩)) (x_index' T.sl22 rfl ha16 rfl (by omega)) ?_
  refine st_gq 3 12 rfl rfl (by decide) ?_
  refine st_q (v := .string (el (xs ++ [(ByteArray.mk #[109, 97, 114, 107])]) xs.length)) (x_load1 T.na9 rfl ((hc17.below hE11).elem enS_len (i := xs.length) (by omega))) ?_
  refine st_gq 3 12 rfl rfl (by decide) ?_
  refine st_q (v := .bool (decide ((el (xs ++ [(ByteArray.mk #[109, 97, 114, 107])]) xs.length).toList = ((ByteArray.mk #[109, 97, 114, 107])).toList))) (x_eqlS rfl rfl) ?_
  refine st_q (v := .bool (decide ((el (xs ++ [(ByteArray.mk #[109, 97, 114, 107])]) xs.length).toList = ((ByteArray.mk #[109, 97, 114, 107])).toList))) (x_pickT rfl rfl) ?_
  refine st_if (p := (el (xs ++ [(ByteArray.mk #[109, 97, 114, 107])]) xs.length).toList = ((ByteArray.mk #[109, 97, 114, 107])).toList) (x_move rfl) (fun h18 => ?_) (fun h18 => ?_)
  ·
    refine st_gq 15 24 rfl rfl (by decide) ?_
    refine st_q (v := .slice bb es.length cb) (x_move rfl) ?_
    refine st_gq 15 24 rfl rfl (by decide) ?_
    refine st_q (v := .slice ay es.length cy) (x_move rfl) ?_
    refine st_gq 15 24 rfl rfl (by decide) ?_
    refine st_c (t_call [.slice bb es.length cb, .slice ay es.length cy] T.cf34 rfl rfl) (sameE34 es es _ _ _ ((Src.front enE_len hx).below hE11) (hy.below hE11)) ?_
    rintro _ w19 ⟨e, hx20⟩
    rw [decide_eq_true rfl] at e
    subst e
    refine ⟨_, rfl, ?_⟩
    have hE21 : Below w0.heap.size w0 w19 := hx20.e hE11 (Nat.le_refl _)
    have hz22 := hE21.le
    have hs23 := hx20.size
    refine st_q (v := .bool true) (x_pickT rfl rfl) ?_
    refine st_q (v := .bool true) (x_move rfl) ?_
    refine st_gq 20 29 rfl rfl (by decide) ?_
    refine st_q (v := .slice bb es.length cb) (x_move rfl) ?_
    refine st_gq 20 29 rfl rfl (by decide) ?_
    refine st_q (v := .slice ay es.length cy) (x_move rfl) ?_
    refine st_gq 20 29 rfl rfl (by decide) ?_
    refine st_q (v := .int .i64 ((es.length : Nat) : Int)) (x_lenSl rfl Try.underlying23 rfl) ?_
    refine st_gq 20 29 rfl rfl (by decide) ?_
    refine st_q (v := .int .i64 (((es.length + 1) : Nat) : Int)) (x_addN rfl rfl (by omega)) ?_
    refine st_gq 20 29 rfl rfl (by decide) ?_
    refine st_q (v := .slice bb ((es.length + 1)) cb) (x_sliceHi T.sl23 rfl rfl (by omega)) ?_
    refine st_gq 20 29 rfl rfl (by decide) ?_
    refine st_q (v := .slice ay es.length cy) (x_move rfl) ?_
    refine st_gq 20 29 rfl rfl (by decide) ?_
    refine st_q (v := .int .i64 ((es.length : Nat) : Int)) (x_lenSl rfl Try.underlying23 rfl) ?_
    refine st_gq 20 29 rfl rfl (by decide) ?_
    obtain ⟨b24, o25, ha26, hc27⟩ := hx.at (by omega)
    refine st_q (v := .pointer (some ⟨b24, o25 + es.length * 3, none⟩)) (x_index' T.sl23 rfl ha26 rfl (by omega)) ?_
    refine st_gq 20 29 rfl rfl (by decide) ?_
    refine st_q (v := .pointer (some ⟨b24, o25 + es.length * 3, none⟩)) (x_field (o := o25 + es.length * 3) T.fa47_0 rfl) ?_
    refine st_gq 20 29 rfl rfl (by decide) ?_
    refine st_q (v := .string ((el (es ++ [((ByteArray.mk #[109, 97, 114, 107]), ByteArray.empty, false)]) es.length).1)) (x_load1 T.na9 rfl (((hc27.below hE21).elem enE_len (i := es.length) (by omega)).fld 0 rfl)) ?_
    refine st_gq 20 29 rfl rfl (by decide) ?_
    refine st_q (v := .bool (decide (((el (es ++ [((ByteArray.mk #[109, 97, 114, 107]), ByteArray.empty, false)]) es.length).1).toList = ((ByteArray.mk #[109, 97, 114, 107])).toList))) (x_eqlS rfl rfl) ?_
    refine st_q (v := .bool (decide (((el (es ++ [((ByteArray.mk #[109, 97, 114, 107]), ByteArray.empty, false)]) es.length).1).toList = ((ByteArray.mk #[109, 97, 114, 107])).toList))) (x_pickT rfl rfl) ?_
    refine st_q (v := .bool (decide (((el (es ++ [((ByteArray.mk #[109, 97, 114, 107]), ByteArray.empty, false)]) es.length).1).toList = ((ByteArray.mk #[109, 97, 114, 107])).toList))) (x_assign rfl) ?_
    refine st_nil ?_
    refine kn6 _ _ ?_
    refine ret ?_
    refine leave1 (P := Try.prog) (fn := Try.f14) (t := 8) (v := .bool (decide (((el (es ++ [((ByteArray.mk #[109, 97, 114, 107]), ByteArray.empty, false)]) es.length).1).toList = ((ByteArray.mk #[109, 97, 114, 107])).toList))) rfl rfl ?_
    exact ⟨by rw [decide_eq_true (by rw [el_mark])], hE21⟩
  ·
    exact absurd h18 (not_not_intro (by rw [el_mark]))

end Go.Proofs.Ytknfjgbipfpnjaa
