import Derived.Test.YtegpcbckiehleaaDoorS13
import Derived.Test.YtegpcbckiehleaaDoorSSet
namespace Go.Proofs.YtegpcbckiehleaaDoor
open Go.RowKit Go.Eng Go.OrdPure Go.Flt
theorem T.cf46 : CF Tryd.prog 46 := fun _ _ => by kernel_rfl

set_option maxHeartbeats 4000000 in
theorem refset22 (L : List Row) (va : Value) (w0 : World) (ha : Src w0.heap va L.length 1 (flat enR L)) (hL : RowsP w0.heap L) (hn : L.length ≤ 1466015503701) (hw : ∀ x ∈ L, x.2.length ≤ 4398046511104) : Calls Tryd.prog 22 #[va] w0 fun e w' => ∃ (v : Value) (R : List Row), e = .returned v ∧ Ext w0 w' ∧ tp R = setL (tp L) ∧ Own w'.heap w0.heap.size 42 1 v R.length (flat enR R) ∧ RowsW w'.heap w0.heap.size R := by
  have hE0 : Below w0.heap.size w0 w0 := Below.refl _ _
  have hz0 := hE0.le
  obtain ⟨a, ca, rfl, hca, hca1⟩ := ha.form
  refine enter Tryd.func22 rfl 75 Tryd.ntmps22 rfl ?_
  refine seqK fun Q1 kn2 kr3 ke4 => ?_
  refine region ?_
  refine st_q (v := .slice none 0 0) (x_assign rfl) ?_
  refine st_nil ?_
  refine kn2 _ _ ?_
  refine seqK fun Q5 kn6 kr7 ke8 => ?_
  refine region ?_
  refine st_q (v := .slice none 0 0) (x_assign rfl) ?_
  refine st_nil ?_
  refine kn6 _ _ ?_
  refine seqK fun Q9 kn10 kr11 ke12 => ?_
  refine seqK fun Q13 kn14 kr15 ke16 => ?_
  refine region ?_
  refine st_q (v := .int .i64 ((0 : Nat) : Int)) (x_assign rfl) ?_
  refine st_nil ?_
  refine kn14 _ _ ?_
  refine blockK fun Q17 kn18 kr19 kx20 kb21 => ?_
  refine loopK (α := Nat × (List Row) × Value) (fun x => [(0, .slice a L.length ca), (3, x.2.2), (4, .int .i64 ((x.1 : Nat) : Int))]) (fun x w22 => Below w0.heap.size w0 w22 ∧ x.1 ≤ L.length ∧ IsSet (tp x.2.1) (tp (L.take x.1)) ∧ Own w22.heap w0.heap.size 42 1 x.2.2 x.2.1.length (flat enR x.2.1) ∧ RowsW w22.heap w0.heap.size x.2.1) (fun x => L.length - x.1) (0, [], .slice none 0 0) ⟨rfl, rfl, rfl, trivial⟩ ?_ ?_
  ·
   refine ⟨hE0, ?_⟩
   try dsimp only
   exact ⟨Nat.zero_le _, ⟨List.Pairwise.nil, fun t => Iff.rfl⟩, Own.nil _ _ _ _, RowsW.nil _ _⟩
  ·
   rintro τ23 ⟨i, R, vl⟩ w24 ⟨hx25, ⟨hi, hI, hO, hW⟩⟩
   try dsimp only at hi hI hO hW
   have hz26 := hx25.le
   intro Q27 kn28 kr29 ke30
   obtain ⟨aV, cV, rfl, hcV, hcV1⟩ := hO.src.form
   have hRl : R.length ≤ i := by
      have h := nodup_le (K := tp R) (L := tp (L.take i)) (hI.1.imp fun {a b} h e => by subst e; rw [tups_self] at h; omega) fun t ht => (hI.2 t).1 ht
      rw [tp_len, tp_len, List.length_take] at h; omega
   refine seqK fun Q31 kn32 kr33 ke34 => ?_
   refine seqK fun Q35 kn36 kr37 ke38 => ?_
   refine region ?_
   refine st_q (v := .int .i64 ((i : Nat) : Int)) (x_move rfl) ?_
   refine st_q (v := .slice a L.length ca) (x_move rfl) ?_
   refine st_q (v := .int .i64 ((L.length : Nat) : Int)) (x_lenSl rfl Tryd.underlying27 rfl) ?_
   refine st_q (v := .bool (decide (i < L.length))) (x_lssN rfl rfl) ?_
   refine st_nil ?_
   refine kn36 _ _ ?_
   refine cnd (p := i < L.length) rfl (fun h39 => ?_) (fun h39 => ?_)
   ·
    refine skip ?_
    refine kn32 _ _ ?_
    refine seqK fun Q40 kn41 kr42 ke43 => ?_
    refine blockK fun Q44 kn45 kr46 kx47 kb48 => ?_
    refine seqK fun Q49 kn50 kr51 ke52 => ?_
    refine region ?_
    refine st_q (v := .slice aV R.length cV) (x_move rfl) ?_
    refine st_q (v := .int .i64 ((R.length : Nat) : Int)) (x_lenSl rfl Tryd.underlying27 rfl) ?_
    refine st_q (v := .int .i64 ((R.length : Nat) : Int)) (x_assign rfl) ?_
    refine st_nil ?_
    refine kn50 _ _ ?_
    refine seqK fun Q53 kn54 kr55 ke56 => ?_
    refine blockK fun Q57 kn58 kr59 kx60 kb61 => ?_
    refine loopK (α := Nat) (fun x => [(0, .slice a L.length ca), (3, .slice aV R.length cV), (4, .int .i64 ((i : Nat) : Int)), (5, .int .i64 ((x : Nat) : Int))]) (fun x w62 => Below w0.heap.size w0 w62 ∧ (x ≤ R.length ∧ ∀ j, x ≤ j → j < R.length → 0 < tups (el R j).2 (el L i).2) ∧ Own w62.heap w0.heap.size 42 1 (.slice aV R.length cV) R.length (flat enR R) ∧ RowsW w62.heap w0.heap.size R) (fun x => x) (R.length) ⟨rfl, rfl, rfl, rfl, trivial⟩ ?_ ?_
    ·
     refine ⟨hx25, ?_⟩
     try dsimp only
     refine ⟨?_, hO, hW⟩
     exact ⟨Nat.le_refl _, fun j h1 h2 => by omega⟩
    ·
     rintro τ63 k w64 ⟨hx67, ⟨⟨hk, hK⟩, hC65, hC66⟩⟩
     try dsimp only at hk hK hC65 hC66
     have hz68 := hx67.le
     intro Q69 kn70 kr71 ke72
     refine seqK fun Q73 kn74 kr75 ke76 => ?_
     refine seqK fun Q77 kn78 kr79 ke80 => ?_
     refine regionD1 [7, 11] [0, 1, 2, 3, 4, 5, 6, 7, 8, 9, 10, 11, 13, 14] (.one 0 (.one 1 (.one 2 (.one 3 (.one 4 (.one 5 (.one 6 (.one 7 (.one 8 (.one 9 (.one 10 (.one 11 (.one 12 (.one 13 (.one 14 .done))))))))))))))) (by kernel_rfl) (by kernel_rfl) ?_
     intro w81 hx82 hs83
     have hF84 := hC65.ext hx82
     have hF85 := hC66.ext hx82
     have hE86 : Below w0.heap.size w0 w81 := hx82.e hx67 (Nat.le_refl _)
     have hz87 := hE86.le
     have hs88 := hx82.size
     have hS89 : Ext w81 w81 := Below.refl _ _
     refine d_q (v := .int .i64 ((k : Nat) : Int)) rfl rfl (fun _ => x_move rfl) ?_
     refine d_q (v := .bool (decide (0 < k))) rfl rfl (fun _ => x_gtrN rfl rfl) ?_
     refine d_if rfl rfl (p := 0 < k) (fun _ => x_move rfl) (fun h90 => ?_) (fun h90 => ?_)
     ·
      refine d_gq (v := .slice aV R.length cV) (j := 2) (t := 17) rfl rfl rfl rfl (by decide) (fun _ => x_move rfl) ?_
      refine d_gq (v := .int .i64 ((k : Nat) : Int)) (j := 2) (t := 17) rfl rfl rfl rfl (by decide) (fun _ => x_move rfl) ?_
      refine d_gq (v := .int .i64 (((k - 1) : Nat) : Int)) (j := 2) (t := 17) rfl rfl rfl rfl (by decide) (fun _ => x_subN rfl rfl (by omega) (by omega)) ?_
      obtain ⟨b91, o92, ha93, hc94⟩ := hF84.src.at (by omega)
      refine d_gq (v := .pointer (some ⟨b91, o92 + ((k - 1)) * 1, none⟩)) (j := 2) (t := 17) rfl rfl rfl rfl (by decide) (fun _ => x_index' T.sl27 rfl ha93 rfl (by omega)) ?_
      refine d_gl (v := .slice ((el R ((k - 1))).1.1) ((el R ((k - 1))).2.length) ((el R ((k - 1))).1.2)) (j := 2) (t := 17) rfl rfl rfl rfl rfl (by decide) (fun v96 hw95 => x_load1 T.na42 rfl ((hc94.elem enR_len (i := (k - 1)) (by omega)).ext hw95)) ?_
      refine d_gq (v := .slice a L.length ca) (j := 2) (t := 17) rfl rfl rfl rfl (by decide) (fun _ => x_move rfl) ?_
      refine d_gq (v := .int .i64 ((i : Nat) : Int)) (j := 2) (t := 17) rfl rfl rfl rfl (by decide) (fun _ => x_move rfl) ?_
      obtain ⟨b97, o98, ha99, hc100⟩ := ha.at (by omega)
      refine d_gq (v := .pointer (some ⟨b97, o98 + i * 1, none⟩)) (j := 2) (t := 17) rfl rfl rfl rfl (by decide) (fun _ => x_index' T.sl27 rfl ha99 rfl (by omega)) ?_
      have hs103 := hL _ (el_mem' (xs := L) (i := i) (by omega))
      have hs103c := hs103.capl
      refine d_gl (v := .slice ((el L i).1.1) ((el L i).2.length) ((el L i).1.2)) (j := 2) (t := 17) rfl rfl rfl rfl rfl (by decide) (fun v102 hw101 => x_load1 T.na42 rfl (((hc100.below hE86).elem enR_len (i := i) (by omega)).ext hw101)) ?_
      refine d_e (by decide) (d_c' rfl (wanted_true (j := 2) (t := 17) rfl rfl (by decide)) (t_call [.slice ((el R ((k - 1))).1.1) ((el R ((k - 1))).2.length) ((el R ((k - 1))).1.2), .slice ((el L i).1.1) ((el L i).2.length) ((el L i).1.2)] T.cf46 rfl rfl) (ahead46 (el R (k - 1)).2 (el L i).2 _ _ _ (hF85.own _ (el_mem' (by omega))).src (Src.below (hL _ (el_mem' (by omega))) hE86)) ?_)
      rintro _ w104 ⟨rfl, hx105⟩
      refine ⟨_, rfl, ?_⟩
      have hF106 := hF84.ext hx105
      have hF107 := hF85.ext hx105
      have hF108 := hc94.ext hx105
      have hE109 : Below w0.heap.size w0 w104 := hx105.e hE86 (Nat.le_refl _)
      have hz110 := hE109.le
      have hs111 := hx105.size
      have hS112 := hS89.trans (hx105.mono hS89.size)
      refine ⟨fun _ => hS112, ?_⟩
      refine d_gq (v := .bool (decide (0 < ((ahd (el R (k - 1)).2 (el L i).2))))) (j := 2) (t := 17) rfl rfl rfl rfl (by decide) (fun _ => x_gtr rfl rfl) ?_
      refine d_q (v := .bool (decide (0 < ((ahd (el R (k - 1)).2 (el L i).2))))) rfl rfl (fun _ => x_pickT rfl rfl) ?_
      refine d_done ?_
      refine kn78 _ _ ?_
      refine cnd (p := 0 < ((ahd (el R (k - 1)).2 (el L i).2))) rfl (fun h113 => ?_) (fun h113 => ?_)
      ·
       refine skip ?_
       refine kn74 _ _ ?_
       refine blockK fun Q114 kn115 kr116 kx117 kb118 => ?_
       refine region ?_
       refine st_q (v := .int .i64 ((k : Nat) : Int)) (x_move rfl) ?_
       refine st_q (v := .int .i64 (((k - 1) : Nat) : Int)) (x_subN rfl rfl (by omega) (by omega)) ?_
       refine st_q (v := .int .i64 (((k - 1) : Nat) : Int)) (x_assign rfl) ?_
       refine st_nil ?_
       refine kn115 _ _ ?_
       refine kn70 _ ((k - 1)) _ ⟨rfl, rfl, rfl, rfl, trivial⟩ ⟨hE109, ?_⟩ ?_
       ·
        try dsimp only
        refine ⟨?_, hF106, hF107⟩
        exact ⟨by omega, fun j h1 h2 => by
          by_cases he : j = k - 1
          · subst he; exact (ahd_sign (el R (k - 1)).2 (el L i).2).2.1 (by omega)
          · exact hK j (by omega) h2⟩
       ·
        (try dsimp only); omega
      ·
       refine exit ?_
       refine ke76 _ _ _ ?_
       refine ke72 _ _ _ ?_
       refine kb61 _ _ ?_
       refine kn54 _ _ ?_
       refine seqK fun Q119 kn120 kr121 ke122 => ?_
       refine seqK fun Q123 kn124 kr125 ke126 => ?_
       refine regionD1 [7, 11] [0, 1, 2, 3, 4, 5, 6, 7, 8, 9, 10, 11, 13, 14] (.one 0 (.one 1 (.one 2 (.one 3 (.one 4 (.one 5 (.one 6 (.one 7 (.one 8 (.one 9 (.one 10 (.one 11 (.one 12 (.one 13 (.one 14 .done))))))))))))))) (by kernel_rfl) (by kernel_rfl) ?_
       intro w127 hx128 hs129
       have hF130 := hF106.ext hx128
       have hF131 := hF107.ext hx128
       have hF132 := hF108.ext hx128
       have hE133 : Below w0.heap.size w0 w127 := hx128.e hE109 (Nat.le_refl _)
       have hz134 := hE133.le
       have hs135 := hx128.size
       have hS136 : Ext w127 w127 := Below.refl _ _
       refine d_q (v := .int .i64 ((k : Nat) : Int)) rfl rfl (fun _ => x_move rfl) ?_
       refine d_q (v := .bool (decide (0 < k))) rfl rfl (fun _ => x_gtrN rfl rfl) ?_
       refine d_if rfl rfl (p := 0 < k) (fun _ => x_move rfl) (fun h137 => ?_) (fun h137 => ?_)
       ·
        refine d_gq (v := .slice aV R.length cV) (j := 2) (t := 34) rfl rfl rfl rfl (by decide) (fun _ => x_move rfl) ?_
        refine d_gq (v := .int .i64 ((k : Nat) : Int)) (j := 2) (t := 34) rfl rfl rfl rfl (by decide) (fun _ => x_move rfl) ?_
        refine d_gq (v := .int .i64 (((k - 1) : Nat) : Int)) (j := 2) (t := 34) rfl rfl rfl rfl (by decide) (fun _ => x_subN rfl rfl (by omega) (by omega)) ?_
        obtain ⟨b138, o139, ha140, hc141⟩ := hF130.src.at (by omega)
        refine d_gq (v := .pointer (some ⟨b138, o139 + ((k - 1)) * 1, none⟩)) (j := 2) (t := 34) rfl rfl rfl rfl (by decide) (fun _ => x_index' T.sl27 rfl ha140 rfl (by omega)) ?_
        refine d_gl (v := .slice ((el R ((k - 1))).1.1) ((el R ((k - 1))).2.length) ((el R ((k - 1))).1.2)) (j := 2) (t := 34) rfl rfl rfl rfl rfl (by decide) (fun v143 hw142 => x_load1 T.na42 rfl ((hc141.elem enR_len (i := (k - 1)) (by omega)).ext hw142)) ?_
        refine d_gq (v := .slice a L.length ca) (j := 2) (t := 34) rfl rfl rfl rfl (by decide) (fun _ => x_move rfl) ?_
        refine d_gq (v := .int .i64 ((i : Nat) : Int)) (j := 2) (t := 34) rfl rfl rfl rfl (by decide) (fun _ => x_move rfl) ?_
        refine d_gq (v := .pointer (some ⟨b97, o98 + i * 1, none⟩)) (j := 2) (t := 34) rfl rfl rfl rfl (by decide) (fun _ => x_index' T.sl27 rfl ha99 rfl (by omega)) ?_
        have hs146 := hL _ (el_mem' (xs := L) (i := i) (by omega))
        have hs146c := hs146.capl
        refine d_gl (v := .slice ((el L i).1.1) ((el L i).2.length) ((el L i).1.2)) (j := 2) (t := 34) rfl rfl rfl rfl rfl (by decide) (fun v145 hw144 => x_load1 T.na42 rfl (((hc100.below hE133).elem enR_len (i := i) (by omega)).ext hw144)) ?_
        refine d_e (by decide) (d_c' rfl (wanted_true (j := 2) (t := 34) rfl rfl (by decide)) (t_call [.slice ((el R ((k - 1))).1.1) ((el R ((k - 1))).2.length) ((el R ((k - 1))).1.2), .slice ((el L i).1.1) ((el L i).2.length) ((el L i).1.2)] T.cf46 rfl rfl) (ahead46 (el R (k - 1)).2 (el L i).2 _ _ _ (hF131.own _ (el_mem' (by omega))).src (Src.below (hL _ (el_mem' (by omega))) hE133)) ?_)
        rintro _ w147 ⟨rfl, hx148⟩
        refine ⟨_, rfl, ?_⟩
        have hF149 := hF130.ext hx148
        have hF150 := hF131.ext hx148
        have hF151 := hF132.ext hx148
        have hF152 := hc141.ext hx148
        have hE153 : Below w0.heap.size w0 w147 := hx148.e hE133 (Nat.le_refl _)
        have hz154 := hE153.le
        have hs155 := hx148.size
        have hS156 := hS136.trans (hx148.mono hS136.size)
        refine ⟨fun _ => hS156, ?_⟩
        refine d_gq (v := .bool (decide (((ahd (el R (k - 1)).2 (el L i).2)) = 0))) (j := 2) (t := 34) rfl rfl rfl rfl (by decide) (fun _ => x_eql rfl rfl) ?_
        refine d_q (v := .bool (decide (((ahd (el R (k - 1)).2 (el L i).2)) = 0))) rfl rfl (fun _ => x_pickT rfl rfl) ?_
        refine d_done ?_
        refine kn124 _ _ ?_
        refine cnd (p := ((ahd (el R (k - 1)).2 (el L i).2)) = 0) rfl (fun h157 => ?_) (fun h157 => ?_)
        ·
         refine exit ?_
         refine ke122 _ _ _ ?_
         refine kb48 _ _ ?_
         refine kn41 _ _ ?_
         refine region ?_
         refine st_q (v := .int .i64 ((i : Nat) : Int)) (x_move rfl) ?_
         refine st_q (v := .int .i64 (((i + 1) : Nat) : Int)) (x_addN rfl rfl (by omega)) ?_
         refine st_q (v := .int .i64 (((i + 1) : Nat) : Int)) (x_assign rfl) ?_
         refine st_nil ?_
         refine kn28 _ ((i + 1), R, .slice aV R.length cV) _ ⟨rfl, rfl, rfl, trivial⟩ ⟨hE153, ?_⟩ ?_
         ·
          try dsimp only
          have ht : (el L i).2 ∈ tp R := by have h := ahd_zero.1 (by assumption : ahd (el R (k - 1)).2 (el L i).2 = 0); rw [← h, ← tp_el (by omega)]; exact el_mem' (by rw [tp_len]; omega)
          exact ⟨by omega, by rw [tp_take_succ (by omega)]; exact isSet_same hI ht, hF149, hF150⟩
         ·
          (try dsimp only); omega
        ·
         refine skip ?_
         refine kn120 _ _ ?_
         refine seqK fun Q158 kn159 kr160 ke161 => ?_
         refine region ?_
         have hlast : 0 < k → tups (el R (k - 1)).2 (el L i).2 ≤ 0 ∧ ¬ tups (el R (k - 1)).2 (el L i).2 = 0 := fun h0 => ⟨by first | (have := (by assumption : ¬ 0 < ahd (el R (k - 1)).2 (el L i).2); have := (ahd_sign (el R (k - 1)).2 (el L i).2); omega) | omega, fun e => by have h := tups_zero e; first | exact absurd (ahd_zero.2 h) (by assumption) | omega⟩
         refine st_q (v := .slice aV R.length cV) (x_move rfl) ?_
         refine st_e (e_buildSlice (cs := [.slice none 0 0]) (e := 42) (fun _ => by kernel_rfl) ?_)
         intro w162 hA163
         have hx164 := hA163.ext
         have hs165 := hA163.size
         have hB166 : Blk w162.heap w147.heap.size [.slice none 0 0] 42 := hA163.new
         have hF167 := hF149.ext hx164
         have hF168 := hF150.ext hx164
         have hF169 := hF151.ext hx164
         have hF170 := hF152.ext hx164
         have hE171 : Below w0.heap.size w0 w162 := hx164.e hE153 (Nat.le_refl _)
         have hz172 := hE171.le
         have hs173 := hx164.size
         refine st_e (e_appendX T.sl27 rfl rfl hF167 (hB166.src1 (k := 1) (m := 1) rfl (by omega)) (ones (by rfl)) (by omega) (by decide) (by omega) ?_)
         intro v174 w175 hO176 hG177 hN178 hW179
         have hF180 := hF168.gk (hG177) (hF167.rowk) (by decide)
         have hE183 : Below w0.heap.size w0 w175 := grown_below hG177 hE171 (Nat.le_refl _) (fun b hb => (by have := (hF167.lt hb).1; clear hb; omega))
         have hz184 := hE183.le
         have hs185 := hG177.size
         have hO186 := Own.snoc (enc := enR) (u := ((none, 0), [])) hO176
         obtain ⟨a187, c188, rfl, hm189, hm190⟩ := hO186.src.form
         refine st_q (v := .slice a187 ((R.length + 1)) c188) (x_assign rfl) ?_
         refine st_nil ?_
         refine kn159 _ _ ?_
         refine seqK fun Q191 kn192 kr193 ke194 => ?_
         refine seqK fun Q195 kn196 kr197 ke198 => ?_
         refine region ?_
         refine st_q (v := .slice a187 ((R.length + 1)) c188) (x_move rfl) ?_
         refine st_q (v := .int .i64 (((R.length + 1) : Nat) : Int)) (x_lenSl rfl Tryd.underlying27 rfl) ?_
         refine st_q (v := .int .i64 ((((R.length + 1) - 1) : Nat) : Int)) (x_subN rfl rfl (by omega) (by omega)) ?_
         refine st_q (v := .int .i64 ((((R.length + 1) - 1) : Nat) : Int)) (x_assign rfl) ?_
         refine st_nil ?_
         refine kn196 _ _ ?_
         refine blockK fun Q199 kn200 kr201 kx202 kb203 => ?_
         refine loopK (α := Nat × (List Row)) (fun x => [(0, .slice a L.length ca), (3, .slice a187 ((R.length + 1)) c188), (4, .int .i64 ((i : Nat) : Int)), (5, .int .i64 ((k : Nat) : Int)), (6, .int .i64 ((x.1 : Nat) : Int))]) (fun x w204 => Below w0.heap.size w0 w204 ∧ (k ≤ x.1 ∧ x.1 ≤ R.length ∧ Own w204.heap w0.heap.size 42 1 (.slice a187 (R.length + 1) c188) (R.length + 1) (flat enR x.2) ∧ x.2.length = R.length + 1 ∧ (∀ j, j < x.1 → el x.2 j = el R j) ∧ ∀ j, x.1 ≤ j → j < R.length → el x.2 (j + 1) = el R j) ∧ RowsW w204.heap w0.heap.size R) (fun x => x.1) (R.length, (R ++ [((none, 0), [])])) ⟨rfl, rfl, rfl, rfl, rfl, trivial⟩ ?_ ?_
         ·
          refine ⟨hE183, ?_⟩
          try dsimp only
          refine ⟨?_, hF180⟩
          exact ⟨hk, Nat.le_refl _, hO186, by simp, fun j h => el_append_left h, fun j h1 h2 => by omega⟩
         ·
          rintro τ205 ⟨m, F⟩ w206 ⟨hx208, ⟨⟨hkm, hm, hOF, hFl, hF1, hF2⟩, hC207⟩⟩
          try dsimp only at hkm hm hOF hFl hF1 hF2 hC207
          have hz209 := hx208.le
          intro Q210 kn211 kr212 ke213
          obtain ⟨bN, cN1, eN, hcN1, hOB⟩ := hOF.ob (fun e => by injection e with _ e2 _; omega)
          injection eN with eN1 eN2 eN3
          have hl214 := hOB.lo
          have hl215 := hOB.lt
          refine seqK fun Q216 kn217 kr218 ke219 => ?_
          refine seqK fun Q220 kn221 kr222 ke223 => ?_
          refine region ?_
          refine st_q (v := .int .i64 ((m : Nat) : Int)) (x_move rfl) ?_
          refine st_q (v := .int .i64 ((k : Nat) : Int)) (x_move rfl) ?_
          refine st_q (v := .bool (decide (k < m))) (x_gtrN rfl rfl) ?_
          refine st_nil ?_
          refine kn221 _ _ ?_
          refine cnd (p := k < m) rfl (fun h224 => ?_) (fun h224 => ?_)
          ·
           refine skip ?_
           refine kn217 _ _ ?_
           refine seqK fun Q225 kn226 kr227 ke228 => ?_
           refine blockK fun Q229 kn230 kr231 kx232 kb233 => ?_
           refine region ?_
           refine st_q (v := .slice a187 ((R.length + 1)) c188) (x_move rfl) ?_
           refine st_q (v := .int .i64 ((m : Nat) : Int)) (x_move rfl) ?_
           refine st_q (v := .slice a187 ((R.length + 1)) c188) (x_move rfl) ?_
           refine st_q (v := .int .i64 ((m : Nat) : Int)) (x_move rfl) ?_
           refine st_q (v := .int .i64 (((m - 1) : Nat) : Int)) (x_subN rfl rfl (by omega) (by omega)) ?_
           refine st_q (v := .pointer (some ⟨bN, 0 + ((m - 1)) * 1, none⟩)) (x_index' T.sl27 rfl eN1 rfl (by omega)) ?_
           refine st_q (v := .slice ((el F (m - 1)).1.1) ((el F (m - 1)).2.length) ((el F (m - 1)).1.2)) (x_load1 T.na42 rfl (hOB.cells.elem enR_len (i := (m - 1)) (by omega))) ?_
           refine st_q (v := .pointer (some ⟨bN, 0 + m * 1, none⟩)) (x_index' T.sl27 rfl eN1 rfl (by omega)) ?_
           refine st_s (e_stO (v := .slice ((el F (m - 1)).1.1) ((el F (m - 1)).2.length) ((el F (m - 1)).1.2)) (u := el F (m - 1)) enR_len T.sz42 rfl rfl rfl hOB (by first | omega | (rw [List.length_set]; omega)) (by rfl) ?_)
           intro w234 _ hP235 hB236
           have hs237 := hP235.size
           have hF238 := hC207.gk (hP235.grownBy) (hOB.rowk) (by decide)
           have hE239 : Below w0.heap.size w0 w234 := hP235.below hx208 (by omega)
           have hz240 := hE239.le
           refine st_nil ?_
           refine kn230 _ _ ?_
           refine kn226 _ _ ?_
           refine region ?_
           refine st_q (v := .int .i64 ((m : Nat) : Int)) (x_move rfl) ?_
           refine st_q (v := .int .i64 (((m - 1) : Nat) : Int)) (x_subN rfl rfl (by omega) (by omega)) ?_
           refine st_q (v := .int .i64 (((m - 1) : Nat) : Int)) (x_assign rfl) ?_
           refine st_nil ?_
           refine kn211 _ ((m - 1), (F.set m (el F (m - 1)))) _ ⟨rfl, rfl, rfl, rfl, rfl, trivial⟩ ⟨hE239, ?_⟩ ?_
           ·
            try dsimp only
            refine ⟨?_, hF238⟩
            exact ⟨by omega, by omega, (by rw [eN1, eN3]; exact hB236.own (by omega) (by rw [flat_length enR_len]; simp only [List.length_set]; omega)), by rw [List.length_set]; exact hFl, fun j h => by rw [el_set_off (by omega)]; exact hF1 j (by omega), fun j h1 h2 => by
              by_cases he : j = m - 1
              · subst he; rw [show m - 1 + 1 = m by omega, el_set_here (by omega)]; exact hF1 (m - 1) (by omega)
              · rw [el_set_off (by omega)]; exact hF2 j (by omega) h2⟩
           ·
            (try dsimp only); omega
          ·
           refine exit ?_
           refine ke219 _ _ _ ?_
           refine ke213 _ _ _ ?_
           refine kb203 _ _ ?_
           refine kn192 _ _ ?_
           refine region ?_
           refine st_q (v := .slice a187 ((R.length + 1)) c188) (x_move rfl) ?_
           refine st_q (v := .int .i64 ((k : Nat) : Int)) (x_move rfl) ?_
           refine st_q (v := .slice a L.length ca) (x_move rfl) ?_
           refine st_q (v := .int .i64 ((i : Nat) : Int)) (x_move rfl) ?_
           refine st_q (v := .pointer (some ⟨b97, o98 + i * 1, none⟩)) (x_index' T.sl27 rfl ha99 rfl (by omega)) ?_
           have hs241 := hL _ (el_mem' (xs := L) (i := i) (by omega))
           have hs241c := hs241.capl
           have hww := hw _ (el_mem' (xs := L) (i := i) (by omega))
           refine st_q (v := .slice ((el L i).1.1) ((el L i).2.length) ((el L i).1.2)) (x_load1 T.na42 rfl ((hc100.below hx208).elem enR_len (i := i) (by omega))) ?_
           refine st_e (e_append0 (lo := w0.heap.size) T.sl42 rfl rfl (hs241.below hx208) (ones (by exact flat_onesS)) (by omega) (by decide) (by omega) ?_)
           intro v242 w243 hO244 hG245 hN246
           have hF247 := hC207.ext hG245
           have hF248 := hOB.ext hG245
           have hE249 : Below w0.heap.size w0 w243 := hG245.e hx208 (Nat.le_refl _)
           have hz250 := hE249.le
           have hs251 := hG245.size
           obtain ⟨a252, c253, rfl, hm254, hm255⟩ := hO244.src.form
           have hW256 : RowsW w243.heap w0.heap.size (R ++ [((a252, c253), (el L i).2)]) := hF247.snoc hO244
           refine st_q (v := .pointer (some ⟨bN, 0 + k * 1, none⟩)) (x_index' T.sl27 rfl eN1 rfl (by omega)) ?_
           refine st_s (e_stO (v := .slice a252 ((el L i).2.length) c253) (u := ((a252, c253), (el L i).2)) enR_len T.sz42 rfl rfl rfl hF248 (by first | omega | (rw [List.length_set]; omega)) (by rfl) ?_)
           intro w257 _ hP258 hB259
           have hs260 := hP258.size
           have hF261 := hW256.gk (hP258.grownBy) (hF248.rowk) (by decide)
           have hE262 : Below w0.heap.size w0 w257 := hP258.below hE249 (by omega)
           have hz263 := hE262.le
           refine st_nil ?_
           refine kn45 _ _ ?_
           refine kn41 _ _ ?_
           refine region ?_
           refine st_q (v := .int .i64 ((i : Nat) : Int)) (x_move rfl) ?_
           refine st_q (v := .int .i64 (((i + 1) : Nat) : Int)) (x_addN rfl rfl (by omega)) ?_
           refine st_q (v := .int .i64 (((i + 1) : Nat) : Int)) (x_assign rfl) ?_
           refine st_nil ?_
           refine kn28 _ ((i + 1), (insAt R k ((a252, c253), (el L i).2)), .slice a187 ((R.length + 1)) c188) _ ⟨rfl, rfl, rfl, trivial⟩ ⟨hE262, ?_⟩ ?_
           ·
            try dsimp only
            have hins : (F.set k (((a252, c253), (el L i).2))) = insAt R k ((a252, c253), (el L i).2) := insAt_el (by omega) (by rw [List.length_set]; exact hFl) (fun j h => by rw [el_set_off (by omega)]; exact hF1 j (by omega)) (el_set_here (by omega)) (fun j h1 h2 => by rw [el_set_off (by omega)]; exact hF2 j (by omega) h2)
            refine ⟨by omega, ?_, ?_, ?_⟩
            · rw [tp_take_succ (by omega)]; exact isSet_step hI (by omega) (fun h0 => by have h1 := (ahd_sign (el R (k - 1)).2 (el L i).2); have h2 := hlast h0; omega) hK
            · rw [insAt_len _ _ _ (by omega), ← hins]; exact (by rw [eN1, eN3]; exact hB259.own (by omega) (by rw [flat_length enR_len]; simp only [List.length_set]; omega))
            · exact hF261.sub fun x hx => by rcases (insAt_mem _ _ _ _).1 hx with rfl | h <;> simp_all
           ·
            (try dsimp only); omega
       ·
        refine d_gn (j := 2) (t := 34) rfl rfl rfl rfl (by decide) rfl ?_
        refine d_gn (j := 2) (t := 34) rfl rfl rfl rfl (by decide) rfl ?_
        refine d_gn (j := 2) (t := 34) rfl rfl rfl rfl (by decide) rfl ?_
        refine d_gn (j := 2) (t := 34) rfl rfl rfl rfl (by decide) rfl ?_
        refine d_gn (j := 2) (t := 34) rfl rfl rfl rfl (by decide) rfl ?_
        refine d_gn (j := 2) (t := 34) rfl rfl rfl rfl (by decide) rfl ?_
        refine d_gn (j := 2) (t := 34) rfl rfl rfl rfl (by decide) rfl ?_
        refine d_gn (j := 2) (t := 34) rfl rfl rfl rfl (by decide) rfl ?_
        refine d_gn (j := 2) (t := 34) rfl rfl rfl rfl (by decide) rfl ?_
        refine d_e (by decide) (wpE_skip (j := 2) (t := 34) rfl rfl rfl (by decide) rfl (fun _ => hS136) ?_)
        refine d_gn (j := 2) (t := 34) rfl rfl rfl rfl (by decide) rfl ?_
        refine d_q (v := .bool false) rfl rfl (fun _ => x_pickF rfl rfl) ?_
        refine d_done ?_
        refine kn124 _ _ ?_
        refine cndF rfl ?_
        refine skip ?_
        refine kn120 _ _ ?_
        refine seqK fun Q264 kn265 kr266 ke267 => ?_
        refine region ?_
        have hlast : 0 < k → tups (el R (k - 1)).2 (el L i).2 ≤ 0 ∧ ¬ tups (el R (k - 1)).2 (el L i).2 = 0 := fun h0 => ⟨by first | (have := (by assumption : ¬ 0 < ahd (el R (k - 1)).2 (el L i).2); have := (ahd_sign (el R (k - 1)).2 (el L i).2); omega) | omega, fun e => by have h := tups_zero e; first | exact absurd (ahd_zero.2 h) (by assumption) | omega⟩
        refine st_q (v := .slice aV R.length cV) (x_move rfl) ?_
        refine st_e (e_buildSlice (cs := [.slice none 0 0]) (e := 42) (fun _ => by kernel_rfl) ?_)
        intro w268 hA269
        have hx270 := hA269.ext
        have hs271 := hA269.size
        have hB272 : Blk w268.heap w127.heap.size [.slice none 0 0] 42 := hA269.new
        have hF273 := hF130.ext hx270
        have hF274 := hF131.ext hx270
        have hF275 := hF132.ext hx270
        have hE276 : Below w0.heap.size w0 w268 := hx270.e hE133 (Nat.le_refl _)
        have hz277 := hE276.le
        have hs278 := hx270.size
        refine st_e (e_appendX T.sl27 rfl rfl hF273 (hB272.src1 (k := 1) (m := 1) rfl (by omega)) (ones (by rfl)) (by omega) (by decide) (by omega) ?_)
        intro v279 w280 hO281 hG282 hN283 hW284
        have hF285 := hF274.gk (hG282) (hF273.rowk) (by decide)
        have hE287 : Below w0.heap.size w0 w280 := grown_below hG282 hE276 (Nat.le_refl _) (fun b hb => (by have := (hF273.lt hb).1; clear hb; omega))
        have hz288 := hE287.le
        have hs289 := hG282.size
        have hO290 := Own.snoc (enc := enR) (u := ((none, 0), [])) hO281
        obtain ⟨a291, c292, rfl, hm293, hm294⟩ := hO290.src.form
        refine st_q (v := .slice a291 ((R.length + 1)) c292) (x_assign rfl) ?_
        refine st_nil ?_
        refine kn265 _ _ ?_
        refine seqK fun Q295 kn296 kr297 ke298 => ?_
        refine seqK fun Q299 kn300 kr301 ke302 => ?_
        refine region ?_
        refine st_q (v := .slice a291 ((R.length + 1)) c292) (x_move rfl) ?_
        refine st_q (v := .int .i64 (((R.length + 1) : Nat) : Int)) (x_lenSl rfl Tryd.underlying27 rfl) ?_
        refine st_q (v := .int .i64 ((((R.length + 1) - 1) : Nat) : Int)) (x_subN rfl rfl (by omega) (by omega)) ?_
        refine st_q (v := .int .i64 ((((R.length + 1) - 1) : Nat) : Int)) (x_assign rfl) ?_
        refine st_nil ?_
        refine kn300 _ _ ?_
        refine blockK fun Q303 kn304 kr305 kx306 kb307 => ?_
        refine loopK (α := Nat × (List Row)) (fun x => [(0, .slice a L.length ca), (3, .slice a291 ((R.length + 1)) c292), (4, .int .i64 ((i : Nat) : Int)), (5, .int .i64 ((k : Nat) : Int)), (6, .int .i64 ((x.1 : Nat) : Int))]) (fun x w308 => Below w0.heap.size w0 w308 ∧ (k ≤ x.1 ∧ x.1 ≤ R.length ∧ Own w308.heap w0.heap.size 42 1 (.slice a291 (R.length + 1) c292) (R.length + 1) (flat enR x.2) ∧ x.2.length = R.length + 1 ∧ (∀ j, j < x.1 → el x.2 j = el R j) ∧ ∀ j, x.1 ≤ j → j < R.length → el x.2 (j + 1) = el R j) ∧ RowsW w308.heap w0.heap.size R) (fun x => x.1) (R.length, (R ++ [((none, 0), [])])) ⟨rfl, rfl, rfl, rfl, rfl, trivial⟩ ?_ ?_
        ·
         refine ⟨hE287, ?_⟩
         try dsimp only
         refine ⟨?_, hF285⟩
         exact ⟨hk, Nat.le_refl _, hO290, by simp, fun j h => el_append_left h, fun j h1 h2 => by omega⟩
        ·
         rintro τ309 ⟨m, F⟩ w310 ⟨hx312, ⟨⟨hkm, hm, hOF, hFl, hF1, hF2⟩, hC311⟩⟩
         try dsimp only at hkm hm hOF hFl hF1 hF2 hC311
         have hz313 := hx312.le
         intro Q314 kn315 kr316 ke317
         obtain ⟨bN, cN1, eN, hcN1, hOB⟩ := hOF.ob (fun e => by injection e with _ e2 _; omega)
         injection eN with eN1 eN2 eN3
         have hl318 := hOB.lo
         have hl319 := hOB.lt
         refine seqK fun Q320 kn321 kr322 ke323 => ?_
         refine seqK fun Q324 kn325 kr326 ke327 => ?_
         refine region ?_
         refine st_q (v := .int .i64 ((m : Nat) : Int)) (x_move rfl) ?_
         refine st_q (v := .int .i64 ((k : Nat) : Int)) (x_move rfl) ?_
         refine st_q (v := .bool (decide (k < m))) (x_gtrN rfl rfl) ?_
         refine st_nil ?_
         refine kn325 _ _ ?_
         refine cnd (p := k < m) rfl (fun h328 => ?_) (fun h328 => ?_)
         ·
          refine skip ?_
          refine kn321 _ _ ?_
          refine seqK fun Q329 kn330 kr331 ke332 => ?_
          refine blockK fun Q333 kn334 kr335 kx336 kb337 => ?_
          refine region ?_
          refine st_q (v := .slice a291 ((R.length + 1)) c292) (x_move rfl) ?_
          refine st_q (v := .int .i64 ((m : Nat) : Int)) (x_move rfl) ?_
          refine st_q (v := .slice a291 ((R.length + 1)) c292) (x_move rfl) ?_
          refine st_q (v := .int .i64 ((m : Nat) : Int)) (x_move rfl) ?_
          refine st_q (v := .int .i64 (((m - 1) : Nat) : Int)) (x_subN rfl rfl (by omega) (by omega)) ?_
          refine st_q (v := .pointer (some ⟨bN, 0 + ((m - 1)) * 1, none⟩)) (x_index' T.sl27 rfl eN1 rfl (by omega)) ?_
          refine st_q (v := .slice ((el F (m - 1)).1.1) ((el F (m - 1)).2.length) ((el F (m - 1)).1.2)) (x_load1 T.na42 rfl (hOB.cells.elem enR_len (i := (m - 1)) (by omega))) ?_
          refine st_q (v := .pointer (some ⟨bN, 0 + m * 1, none⟩)) (x_index' T.sl27 rfl eN1 rfl (by omega)) ?_
          refine st_s (e_stO (v := .slice ((el F (m - 1)).1.1) ((el F (m - 1)).2.length) ((el F (m - 1)).1.2)) (u := el F (m - 1)) enR_len T.sz42 rfl rfl rfl hOB (by first | omega | (rw [List.length_set]; omega)) (by rfl) ?_)
          intro w338 _ hP339 hB340
          have hs341 := hP339.size
          have hF342 := hC311.gk (hP339.grownBy) (hOB.rowk) (by decide)
          have hE343 : Below w0.heap.size w0 w338 := hP339.below hx312 (by omega)
          have hz344 := hE343.le
          refine st_nil ?_
          refine kn334 _ _ ?_
          refine kn330 _ _ ?_
          refine region ?_
          refine st_q (v := .int .i64 ((m : Nat) : Int)) (x_move rfl) ?_
          refine st_q (v := .int .i64 (((m - 1) : Nat) : Int)) (x_subN rfl rfl (by omega) (by omega)) ?_
          refine st_q (v := .int .i64 (((m - 1) : Nat) : Int)) (x_assign rfl) ?_
          refine st_nil ?_
          refine kn315 _ ((m - 1), (F.set m (el F (m - 1)))) _ ⟨rfl, rfl, rfl, rfl, rfl, trivial⟩ ⟨hE343, ?_⟩ ?_
          ·
           try dsimp only
           refine ⟨?_, hF342⟩
           exact ⟨by omega, by omega, (by rw [eN1, eN3]; exact hB340.own (by omega) (by rw [flat_length enR_len]; simp only [List.length_set]; omega)), by rw [List.length_set]; exact hFl, fun j h => by rw [el_set_off (by omega)]; exact hF1 j (by omega), fun j h1 h2 => by
             by_cases he : j = m - 1
             · subst he; rw [show m - 1 + 1 = m by omega, el_set_here (by omega)]; exact hF1 (m - 1) (by omega)
             · rw [el_set_off (by omega)]; exact hF2 j (by omega) h2⟩
          ·
           (try dsimp only); omega
         ·
          refine exit ?_
          refine ke323 _ _ _ ?_
          refine ke317 _ _ _ ?_
          refine kb307 _ _ ?_
          refine kn296 _ _ ?_
          refine region ?_
          refine st_q (v := .slice a291 ((R.length + 1)) c292) (x_move rfl) ?_
          refine st_q (v := .int .i64 ((k : Nat) : Int)) (x_move rfl) ?_
          refine st_q (v := .slice a L.length ca) (x_move rfl) ?_
          refine st_q (v := .int .i64 ((i : Nat) : Int)) (x_move rfl) ?_
          refine st_q (v := .pointer (some ⟨b97, o98 + i * 1, none⟩)) (x_index' T.sl27 rfl ha99 rfl (by omega)) ?_
          have hs345 := hL _ (el_mem' (xs := L) (i := i) (by omega))
          have hs345c := hs345.capl
          have hww := hw _ (el_mem' (xs := L) (i := i) (by omega))
          refine st_q (v := .slice ((el L i).1.1) ((el L i).2.length) ((el L i).1.2)) (x_load1 T.na42 rfl ((hc100.below hx312).elem enR_len (i := i) (by omega))) ?_
          refine st_e (e_append0 (lo := w0.heap.size) T.sl42 rfl rfl (hs345.below hx312) (ones (by exact flat_onesS)) (by omega) (by decide) (by omega) ?_)
          intro v346 w347 hO348 hG349 hN350
          have hF351 := hC311.ext hG349
          have hF352 := hOB.ext hG349
          have hE353 : Below w0.heap.size w0 w347 := hG349.e hx312 (Nat.le_refl _)
          have hz354 := hE353.le
          have hs355 := hG349.size
          obtain ⟨a356, c357, rfl, hm358, hm359⟩ := hO348.src.form
          have hW360 : RowsW w347.heap w0.heap.size (R ++ [((a356, c357), (el L i).2)]) := hF351.snoc hO348
          refine st_q (v := .pointer (some ⟨bN, 0 + k * 1, none⟩)) (x_index' T.sl27 rfl eN1 rfl (by omega)) ?_
          refine st_s (e_stO (v := .slice a356 ((el L i).2.length) c357) (u := ((a356, c357), (el L i).2)) enR_len T.sz42 rfl rfl rfl hF352 (by first | omega | (rw [List.length_set]; omega)) (by rfl) ?_)
          intro w361 _ hP362 hB363
          have hs364 := hP362.size
          have hF365 := hW360.gk (hP362.grownBy) (hF352.rowk) (by decide)
          have hE366 : Below w0.heap.size w0 w361 := hP362.below hE353 (by omega)
          have hz367 := hE366.le
          refine st_nil ?_
          refine kn45 _ _ ?_
          refine kn41 _ _ ?_
          refine region ?_
          refine st_q (v := .int .i64 ((i : Nat) : Int)) (x_move rfl) ?_
          refine st_q (v := .int .i64 (((i + 1) : Nat) : Int)) (x_addN rfl rfl (by omega)) ?_
          refine st_q (v := .int .i64 (((i + 1) : Nat) : Int)) (x_assign rfl) ?_
          refine st_nil ?_
          refine kn28 _ ((i + 1), (insAt R k ((a356, c357), (el L i).2)), .slice a291 ((R.length + 1)) c292) _ ⟨rfl, rfl, rfl, trivial⟩ ⟨hE366, ?_⟩ ?_
          ·
           try dsimp only
           have hins : (F.set k (((a356, c357), (el L i).2))) = insAt R k ((a356, c357), (el L i).2) := insAt_el (by omega) (by rw [List.length_set]; exact hFl) (fun j h => by rw [el_set_off (by omega)]; exact hF1 j (by omega)) (el_set_here (by omega)) (fun j h1 h2 => by rw [el_set_off (by omega)]; exact hF2 j (by omega) h2)
           refine ⟨by omega, ?_, ?_, ?_⟩
           · rw [tp_take_succ (by omega)]; exact isSet_step hI (by omega) (fun h0 => by have h1 := (ahd_sign (el R (k - 1)).2 (el L i).2); have h2 := hlast h0; omega) hK
           · rw [insAt_len _ _ _ (by omega), ← hins]; exact (by rw [eN1, eN3]; exact hB363.own (by omega) (by rw [flat_length enR_len]; simp only [List.length_set]; omega))
           · exact hF365.sub fun x hx => by rcases (insAt_mem _ _ _ _).1 hx with rfl | h <;> simp_all
          ·
           (try dsimp only); omega
     ·
      refine d_gn (j := 2) (t := 17) rfl rfl rfl rfl (by decide) rfl ?_
      refine d_gn (j := 2) (t := 17) rfl rfl rfl rfl (by decide) rfl ?_
      refine d_gn (j := 2) (t := 17) rfl rfl rfl rfl (by decide) rfl ?_
      refine d_gn (j := 2) (t := 17) rfl rfl rfl rfl (by decide) rfl ?_
      refine d_gn (j := 2) (t := 17) rfl rfl rfl rfl (by decide) rfl ?_
      refine d_gn (j := 2) (t := 17) rfl rfl rfl rfl (by decide) rfl ?_
      refine d_gn (j := 2) (t := 17) rfl rfl rfl rfl (by decide) rfl ?_
      refine d_gn (j := 2) (t := 17) rfl rfl rfl rfl (by decide) rfl ?_
      refine d_gn (j := 2) (t := 17) rfl rfl rfl rfl (by decide) rfl ?_
      refine d_e (by decide) (wpE_skip (j := 2) (t := 17) rfl rfl rfl (by decide) rfl (fun _ => hS89) ?_)
      refine d_gn (j := 2) (t := 17) rfl rfl rfl rfl (by decide) rfl ?_
      refine d_q (v := .bool false) rfl rfl (fun _ => x_pickF rfl rfl) ?_
      refine d_done ?_
      refine kn78 _ _ ?_
      refine cndF rfl ?_
      refine exit ?_
      refine ke76 _ _ _ ?_
      refine ke72 _ _ _ ?_
      refine kb61 _ _ ?_
      refine kn54 _ _ ?_
      refine seqK fun Q368 kn369 kr370 ke371 => ?_
      refine seqK fun Q372 kn373 kr374 ke375 => ?_
      refine regionD1 [7, 11] [0, 1, 2, 3, 4, 5, 6, 7, 8, 9, 10, 11, 13, 14] (.one 0 (.one 1 (.one 2 (.one 3 (.one 4 (.one 5 (.one 6 (.one 7 (.one 8 (.one 9 (.one 10 (.one 11 (.one 12 (.one 13 (.one 14 .done))))))))))))))) (by kernel_rfl) (by kernel_rfl) ?_
      intro w376 hx377 hs378
      have hF379 := hF84.ext hx377
      have hF380 := hF85.ext hx377
      have hE381 : Below w0.heap.size w0 w376 := hx377.e hE86 (Nat.le_refl _)
      have hz382 := hE381.le
      have hs383 := hx377.size
      have hS384 : Ext w376 w376 := Below.refl _ _
      refine d_q (v := .int .i64 ((k : Nat) : Int)) rfl rfl (fun _ => x_move rfl) ?_
      refine d_q (v := .bool (decide (0 < k))) rfl rfl (fun _ => x_gtrN rfl rfl) ?_
      refine d_if rfl rfl (p := 0 < k) (fun _ => x_move rfl) (fun h385 => ?_) (fun h385 => ?_)
      ·
       refine d_gq (v := .slice aV R.length cV) (j := 2) (t := 34) rfl rfl rfl rfl (by decide) (fun _ => x_move rfl) ?_
       refine d_gq (v := .int .i64 ((k : Nat) : Int)) (j := 2) (t := 34) rfl rfl rfl rfl (by decide) (fun _ => x_move rfl) ?_
       refine d_gq (v := .int .i64 (((k - 1) : Nat) : Int)) (j := 2) (t := 34) rfl rfl rfl rfl (by decide) (fun _ => x_subN rfl rfl (by omega) (by omega)) ?_
       obtain ⟨b386, o387, ha388, hc389⟩ := hF379.src.at (by omega)
       refine d_gq (v := .pointer (some ⟨b386, o387 + ((k - 1)) * 1, none⟩)) (j := 2) (t := 34) rfl rfl rfl rfl (by decide) (fun _ => x_index' T.sl27 rfl ha388 rfl (by omega)) ?_
       refine d_gl (v := .slice ((el R ((k - 1))).1.1) ((el R ((k - 1))).2.length) ((el R ((k - 1))).1.2)) (j := 2) (t := 34) rfl rfl rfl rfl rfl (by decide) (fun v391 hw390 => x_load1 T.na42 rfl ((hc389.elem enR_len (i := (k - 1)) (by omega)).ext hw390)) ?_
       refine d_gq (v := .slice a L.length ca) (j := 2) (t := 34) rfl rfl rfl rfl (by decide) (fun _ => x_move rfl) ?_
       refine d_gq (v := .int .i64 ((i : Nat) : Int)) (j := 2) (t := 34) rfl rfl rfl rfl (by decide) (fun _ => x_move rfl) ?_
       obtain ⟨b392, o393, ha394, hc395⟩ := ha.at (by omega)
       refine d_gq (v := .pointer (some ⟨b392, o393 + i * 1, none⟩)) (j := 2) (t := 34) rfl rfl rfl rfl (by decide) (fun _ => x_index' T.sl27 rfl ha394 rfl (by omega)) ?_
       have hs398 := hL _ (el_mem' (xs := L) (i := i) (by omega))
       have hs398c := hs398.capl
       refine d_gl (v := .slice ((el L i).1.1) ((el L i).2.length) ((el L i).1.2)) (j := 2) (t := 34) rfl rfl rfl rfl rfl (by decide) (fun v397 hw396 => x_load1 T.na42 rfl (((hc395.below hE381).elem enR_len (i := i) (by omega)).ext hw396)) ?_
       refine d_e (by decide) (d_c' rfl (wanted_true (j := 2) (t := 34) rfl rfl (by decide)) (t_call [.slice ((el R ((k - 1))).1.1) ((el R ((k - 1))).2.length) ((el R ((k - 1))).1.2), .slice ((el L i).1.1) ((el L i).2.length) ((el L i).1.2)] T.cf46 rfl rfl) (ahead46 (el R (k - 1)).2 (el L i).2 _ _ _ (hF380.own _ (el_mem' (by omega))).src (Src.below (hL _ (el_mem' (by omega))) hE381)) ?_)
       rintro _ w399 ⟨rfl, hx400⟩
       refine ⟨_, rfl, ?_⟩
       have hF401 := hF379.ext hx400
       have hF402 := hF380.ext hx400
       have hF403 := hc389.ext hx400
       have hE404 : Below w0.heap.size w0 w399 := hx400.e hE381 (Nat.le_refl _)
       have hz405 := hE404.le
       have hs406 := hx400.size
       have hS407 := hS384.trans (hx400.mono hS384.size)
       refine ⟨fun _ => hS407, ?_⟩
       refine d_gq (v := .bool (decide (((ahd (el R (k - 1)).2 (el L i).2)) = 0))) (j := 2) (t := 34) rfl rfl rfl rfl (by decide) (fun _ => x_eql rfl rfl) ?_
       refine d_q (v := .bool (decide (((ahd (el R (k - 1)).2 (el L i).2)) = 0))) rfl rfl (fun _ => x_pickT rfl rfl) ?_
       refine d_done ?_
       refine kn373 _ _ ?_
       refine cnd (p := ((ahd (el R (k - 1)).2 (el L i).2)) = 0) rfl (fun h408 => ?_) (fun h408 => ?_)
       ·
        refine exit ?_
        refine ke371 _ _ _ ?_
        refine kb48 _ _ ?_
        refine kn41 _ _ ?_
        refine region ?_
        refine st_q (v := .int .i64 ((i : Nat) : Int)) (x_move rfl) ?_
        refine st_q (v := .int .i64 (((i + 1) : Nat) : Int)) (x_addN rfl rfl (by omega)) ?_
        refine st_q (v := .int .i64 (((i + 1) : Nat) : Int)) (x_assign rfl) ?_
        refine st_nil ?_
        refine kn28 _ ((i + 1), R, .slice aV R.length cV) _ ⟨rfl, rfl, rfl, trivial⟩ ⟨hE404, ?_⟩ ?_
        ·
         try dsimp only
         have ht : (el L i).2 ∈ tp R := by have h := ahd_zero.1 (by assumption : ahd (el R (k - 1)).2 (el L i).2 = 0); rw [← h, ← tp_el (by omega)]; exact el_mem' (by rw [tp_len]; omega)
         exact ⟨by omega, by rw [tp_take_succ (by omega)]; exact isSet_same hI ht, hF401, hF402⟩
        ·
         (try dsimp only); omega
       ·
        refine skip ?_
        refine kn369 _ _ ?_
        refine seqK fun Q409 kn410 kr411 ke412 => ?_
        refine region ?_
        have hlast : 0 < k → tups (el R (k - 1)).2 (el L i).2 ≤ 0 ∧ ¬ tups (el R (k - 1)).2 (el L i).2 = 0 := fun h0 => ⟨by first | (have := (by assumption : ¬ 0 < ahd (el R (k - 1)).2 (el L i).2); have := (ahd_sign (el R (k - 1)).2 (el L i).2); omega) | omega, fun e => by have h := tups_zero e; first | exact absurd (ahd_zero.2 h) (by assumption) | omega⟩
        refine st_q (v := .slice aV R.length cV) (x_move rfl) ?_
        refine st_e (e_buildSlice (cs := [.slice none 0 0]) (e := 42) (fun _ => by kernel_rfl) ?_)
        intro w413 hA414
        have hx415 := hA414.ext
        have hs416 := hA414.size
        have hB417 : Blk w413.heap w399.heap.size [.slice none 0 0] 42 := hA414.new
        have hF418 := hF401.ext hx415
        have hF419 := hF402.ext hx415
        have hF420 := hF403.ext hx415
        have hE421 : Below w0.heap.size w0 w413 := hx415.e hE404 (Nat.le_refl _)
        have hz422 := hE421.le
        have hs423 := hx415.size
        refine st_e (e_appendX T.sl27 rfl rfl hF418 (hB417.src1 (k := 1) (m := 1) rfl (by omega)) (ones (by rfl)) (by omega) (by decide) (by omega) ?_)
        intro v424 w425 hO426 hG427 hN428 hW429
        have hF430 := hF419.gk (hG427) (hF418.rowk) (by decide)
        have hE432 : Below w0.heap.size w0 w425 := grown_below hG427 hE421 (Nat.le_refl _) (fun b hb => (by have := (hF418.lt hb).1; clear hb; omega))
        have hz433 := hE432.le
        have hs434 := hG427.size
        have hO435 := Own.snoc (enc := enR) (u := ((none, 0), [])) hO426
        obtain ⟨a436, c437, rfl, hm438, hm439⟩ := hO435.src.form
        refine st_q (v := .slice a436 ((R.length + 1)) c437) (x_assign rfl) ?_
        refine st_nil ?_
        refine kn410 _ _ ?_
        refine seqK fun Q440 kn441 kr442 ke443 => ?_
        refine seqK fun Q444 kn445 kr446 ke447 => ?_
        refine region ?_
        refine st_q (v := .slice a436 ((R.length + 1)) c437) (x_move rfl) ?_
        refine st_q (v := .int .i64 (((R.length + 1) : Nat) : Int)) (x_lenSl rfl Tryd.underlying27 rfl) ?_
        refine st_q (v := .int .i64 ((((R.length + 1) - 1) : Nat) : Int)) (x_subN rfl rfl (by omega) (by omega)) ?_
        refine st_q (v := .int .i64 ((((R.length + 1) - 1) : Nat) : Int)) (x_assign rfl) ?_
        refine st_nil ?_
        refine kn445 _ _ ?_
        refine blockK fun Q448 kn449 kr450 kx451 kb452 => ?_
        refine loopK (α := Nat × (List Row)) (fun x => [(0, .slice a L.length ca), (3, .slice a436 ((R.length + 1)) c437), (4, .int .i64 ((i : Nat) : Int)), (5, .int .i64 ((k : Nat) : Int)), (6, .int .i64 ((x.1 : Nat) : Int))]) (fun x w453 => Below w0.heap.size w0 w453 ∧ (k ≤ x.1 ∧ x.1 ≤ R.length ∧ Own w453.heap w0.heap.size 42 1 (.slice a436 (R.length + 1) c437) (R.length + 1) (flat enR x.2) ∧ x.2.length = R.length + 1 ∧ (∀ j, j < x.1 → el x.2 j = el R j) ∧ ∀ j, x.1 ≤ j → j < R.length → el x.2 (j + 1) = el R j) ∧ RowsW w453.heap w0.heap.size R) (fun x => x.1) (R.length, (R ++ [((none, 0), [])])) ⟨rfl, rfl, rfl, rfl, rfl, trivial⟩ ?_ ?_
        ·
         refine ⟨hE432, ?_⟩
         try dsimp only
         refine ⟨?_, hF430⟩
         exact ⟨hk, Nat.le_refl _, hO435, by simp, fun j h => el_append_left h, fun j h1 h2 => by omega⟩
        ·
         rintro τ454 ⟨m, F⟩ w455 ⟨hx457, ⟨⟨hkm, hm, hOF, hFl, hF1, hF2⟩, hC456⟩⟩
         try dsimp only at hkm hm hOF hFl hF1 hF2 hC456
         have hz458 := hx457.le
         intro Q459 kn460 kr461 ke462
         obtain ⟨bN, cN1, eN, hcN1, hOB⟩ := hOF.ob (fun e => by injection e with _ e2 _; omega)
         injection eN with eN1 eN2 eN3
         have hl463 := hOB.lo
         have hl464 := hOB.lt
         refine seqK fun Q465 kn466 kr467 ke468 => ?_
         refine seqK fun Q469 kn470 kr471 ke472 => ?_
         refine region ?_
         refine st_q (v := .int .i64 ((m : Nat) : Int)) (x_move rfl) ?_
         refine st_q (v := .int .i64 ((k : Nat) : Int)) (x_move rfl) ?_
         refine st_q (v := .bool (decide (k < m))) (x_gtrN rfl rfl) ?_
         refine st_nil ?_
         refine kn470 _ _ ?_
         refine cnd (p := k < m) rfl (fun h473 => ?_) (fun h473 => ?_)
         ·
          refine skip ?_
          refine kn466 _ _ ?_
          refine seqK fun Q474 kn475 kr476 ke477 => ?_
          refine blockK fun Q478 kn479 kr480 kx481 kb482 => ?_
          refine region ?_
          refine st_q (v := .slice a436 ((R.length + 1)) c437) (x_move rfl) ?_
          refine st_q (v := .int .i64 ((m : Nat) : Int)) (x_move rfl) ?_
          refine st_q (v := .slice a436 ((R.length + 1)) c437) (x_move rfl) ?_
          refine st_q (v := .int .i64 ((m : Nat) : Int)) (x_move rfl) ?_
          refine st_q (v := .int .i64 (((m - 1) : Nat) : Int)) (x_subN rfl rfl (by omega) (by omega)) ?_
          refine st_q (v := .pointer (some ⟨bN, 0 + ((m - 1)) * 1, none⟩)) (x_index' T.sl27 rfl eN1 rfl (by omega)) ?_
          refine st_q (v := .slice ((el F (m - 1)).1.1) ((el F (m - 1)).2.length) ((el F (m - 1)).1.2)) (x_load1 T.na42 rfl (hOB.cells.elem enR_len (i := (m - 1)) (by omega))) ?_
          refine st_q (v := .pointer (some ⟨bN, 0 + m * 1, none⟩)) (x_index' T.sl27 rfl eN1 rfl (by omega)) ?_
          refine st_s (e_stO (v := .slice ((el F (m - 1)).1.1) ((el F (m - 1)).2.length) ((el F (m - 1)).1.2)) (u := el F (m - 1)) enR_len T.sz42 rfl rfl rfl hOB (by first | omega | (rw [List.length_set]; omega)) (by rfl) ?_)
          intro w483 _ hP484 hB485
          have hs486 := hP484.size
          have hF487 := hC456.gk (hP484.grownBy) (hOB.rowk) (by decide)
          have hE488 : Below w0.heap.size w0 w483 := hP484.below hx457 (by omega)
          have hz489 := hE488.le
          refine st_nil ?_
          refine kn479 _ _ ?_
          refine kn475 _ _ ?_
          refine region ?_
          refine st_q (v := .int .i64 ((m : Nat) : Int)) (x_move rfl) ?_
          refine st_q (v := .int .i64 (((m - 1) : Nat) : Int)) (x_subN rfl rfl (by omega) (by omega)) ?_
          refine st_q (v := .int .i64 (((m - 1) : Nat) : Int)) (x_assign rfl) ?_
          refine st_nil ?_
          refine kn460 _ ((m - 1), (F.set m (el F (m - 1)))) _ ⟨rfl, rfl, rfl, rfl, rfl, trivial⟩ ⟨hE488, ?_⟩ ?_
          ·
           try dsimp only
           refine ⟨?_, hF487⟩
           exact ⟨by omega, by omega, (by rw [eN1, eN3]; exact hB485.own (by omega) (by rw [flat_length enR_len]; simp only [List.length_set]; omega)), by rw [List.length_set]; exact hFl, fun j h => by rw [el_set_off (by omega)]; exact hF1 j (by omega), fun j h1 h2 => by
             by_cases he : j = m - 1
             · subst he; rw [show m - 1 + 1 = m by omega, el_set_here (by omega)]; exact hF1 (m - 1) (by omega)
             · rw [el_set_off (by omega)]; exact hF2 j (by omega) h2⟩
          ·
           (try dsimp only); omega
         ·
          refine exit ?_
          refine ke468 _ _ _ ?_
          refine ke462 _ _ _ ?_
          refine kb452 _ _ ?_
          refine kn441 _ _ ?_
          refine region ?_
          refine st_q (v := .slice a436 ((R.length + 1)) c437) (x_move rfl) ?_
          refine st_q (v := .int .i64 ((k : Nat) : Int)) (x_move rfl) ?_
          refine st_q (v := .slice a L.length ca) (x_move rfl) ?_
          refine st_q (v := .int .i64 ((i : Nat) : Int)) (x_move rfl) ?_
          refine st_q (v := .pointer (some ⟨b392, o393 + i * 1, none⟩)) (x_index' T.sl27 rfl ha394 rfl (by omega)) ?_
          have hs490 := hL _ (el_mem' (xs := L) (i := i) (by omega))
          have hs490c := hs490.capl
          have hww := hw _ (el_mem' (xs := L) (i := i) (by omega))
          refine st_q (v := .slice ((el L i).1.1) ((el L i).2.length) ((el L i).1.2)) (x_load1 T.na42 rfl ((hc395.below hx457).elem enR_len (i := i) (by omega))) ?_
          refine st_e (e_append0 (lo := w0.heap.size) T.sl42 rfl rfl (hs490.below hx457) (ones (by exact flat_onesS)) (by omega) (by decide) (by omega) ?_)
          intro v491 w492 hO493 hG494 hN495
          have hF496 := hC456.ext hG494
          have hF497 := hOB.ext hG494
          have hE498 : Below w0.heap.size w0 w492 := hG494.e hx457 (Nat.le_refl _)
          have hz499 := hE498.le
          have hs500 := hG494.size
          obtain ⟨a501, c502, rfl, hm503, hm504⟩ := hO493.src.form
          have hW505 : RowsW w492.heap w0.heap.size (R ++ [((a501, c502), (el L i).2)]) := hF496.snoc hO493
          refine st_q (v := .pointer (some ⟨bN, 0 + k * 1, none⟩)) (x_index' T.sl27 rfl eN1 rfl (by omega)) ?_
          refine st_s (e_stO (v := .slice a501 ((el L i).2.length) c502) (u := ((a501, c502), (el L i).2)) enR_len T.sz42 rfl rfl rfl hF497 (by first | omega | (rw [List.length_set]; omega)) (by rfl) ?_)
          intro w506 _ hP507 hB508
          have hs509 := hP507.size
          have hF510 := hW505.gk (hP507.grownBy) (hF497.rowk) (by decide)
          have hE511 : Below w0.heap.size w0 w506 := hP507.below hE498 (by omega)
          have hz512 := hE511.le
          refine st_nil ?_
          refine kn45 _ _ ?_
          refine kn41 _ _ ?_
          refine region ?_
          refine st_q (v := .int .i64 ((i : Nat) : Int)) (x_move rfl) ?_
          refine st_q (v := .int .i64 (((i + 1) : Nat) : Int)) (x_addN rfl rfl (by omega)) ?_
          refine st_q (v := .int .i64 (((i + 1) : Nat) : Int)) (x_assign rfl) ?_
          refine st_nil ?_
          refine kn28 _ ((i + 1), (insAt R k ((a501, c502), (el L i).2)), .slice a436 ((R.length + 1)) c437) _ ⟨rfl, rfl, rfl, trivial⟩ ⟨hE511, ?_⟩ ?_
          ·
           try dsimp only
           have hins : (F.set k (((a501, c502), (el L i).2))) = insAt R k ((a501, c502), (el L i).2) := insAt_el (by omega) (by rw [List.length_set]; exact hFl) (fun j h => by rw [el_set_off (by omega)]; exact hF1 j (by omega)) (el_set_here (by omega)) (fun j h1 h2 => by rw [el_set_off (by omega)]; exact hF2 j (by omega) h2)
           refine ⟨by omega, ?_, ?_, ?_⟩
           · rw [tp_take_succ (by omega)]; exact isSet_step hI (by omega) (fun h0 => by have h1 := (ahd_sign (el R (k - 1)).2 (el L i).2); have h2 := hlast h0; omega) hK
           · rw [insAt_len _ _ _ (by omega), ← hins]; exact (by rw [eN1, eN3]; exact hB508.own (by omega) (by rw [flat_length enR_len]; simp only [List.length_set]; omega))
           · exact hF510.sub fun x hx => by rcases (insAt_mem _ _ _ _).1 hx with rfl | h <;> simp_all
          ·
           (try dsimp only); omega
      ·
       refine d_gn (j := 2) (t := 34) rfl rfl rfl rfl (by decide) rfl ?_
       refine d_gn (j := 2) (t := 34) rfl rfl rfl rfl (by decide) rfl ?_
       refine d_gn (j := 2) (t := 34) rfl rfl rfl rfl (by decide) rfl ?_
       refine d_gn (j := 2) (t := 34) rfl rfl rfl rfl (by decide) rfl ?_
       refine d_gn (j := 2) (t := 34) rfl rfl rfl rfl (by decide) rfl ?_
       refine d_gn (j := 2) (t := 34) rfl rfl rfl rfl (by decide) rfl ?_
       refine d_gn (j := 2) (t := 34) rfl rfl rfl rfl (by decide) rfl ?_
       refine d_gn (j := 2) (t := 34) rfl rfl rfl rfl (by decide) rfl ?_
       refine d_gn (j := 2) (t := 34) rfl rfl rfl rfl (by decide) rfl ?_
       refine d_e (by decide) (wpE_skip (j := 2) (t := 34) rfl rfl rfl (by decide) rfl (fun _ => hS384) ?_)
       refine d_gn (j := 2) (t := 34) rfl rfl rfl rfl (by decide) rfl ?_
       refine d_q (v := .bool false) rfl rfl (fun _ => x_pickF rfl rfl) ?_
       refine d_done ?_
       refine kn373 _ _ ?_
       refine cndF rfl ?_
       refine skip ?_
       refine kn369 _ _ ?_
       refine seqK fun Q513 kn514 kr515 ke516 => ?_
       refine region ?_
       have hlast : 0 < k → tups (el R (k - 1)).2 (el L i).2 ≤ 0 ∧ ¬ tups (el R (k - 1)).2 (el L i).2 = 0 := fun h0 => ⟨by first | (have := (by assumption : ¬ 0 < ahd (el R (k - 1)).2 (el L i).2); have := (ahd_sign (el R (k - 1)).2 (el L i).2); omega) | omega, fun e => by have h := tups_zero e; first | exact absurd (ahd_zero.2 h) (by assumption) | omega⟩
       refine st_q (v := .slice aV R.length cV) (x_move rfl) ?_
       refine st_e (e_buildSlice (cs := [.slice none 0 0]) (e := 42) (fun _ => by kernel_rfl) ?_)
       intro w517 hA518
       have hx519 := hA518.ext
       have hs520 := hA518.size
       have hB521 : Blk w517.heap w376.heap.size [.slice none 0 0] 42 := hA518.new
       have hF522 := hF379.ext hx519
       have hF523 := hF380.ext hx519
       have hE524 : Below w0.heap.size w0 w517 := hx519.e hE381 (Nat.le_refl _)
       have hz525 := hE524.le
       have hs526 := hx519.size
       refine st_e (e_appendX T.sl27 rfl rfl hF522 (hB521.src1 (k := 1) (m := 1) rfl (by omega)) (ones (by rfl)) (by omega) (by decide) (by omega) ?_)
       intro v527 w528 hO529 hG530 hN531 hW532
       have hF533 := hF523.gk (hG530) (hF522.rowk) (by decide)
       have hE534 : Below w0.heap.size w0 w528 := grown_below hG530 hE524 (Nat.le_refl _) (fun b hb => (by have := (hF522.lt hb).1; clear hb; omega))
       have hz535 := hE534.le
       have hs536 := hG530.size
       have hO537 := Own.snoc (enc := enR) (u := ((none, 0), [])) hO529
       obtain ⟨a538, c539, rfl, hm540, hm541⟩ := hO537.src.form
       refine st_q (v := .slice a538 ((R.length + 1)) c539) (x_assign rfl) ?_
       refine st_nil ?_
       refine kn514 _ _ ?_
       refine seqK fun Q542 kn543 kr544 ke545 => ?_
       refine seqK fun Q546 kn547 kr548 ke549 => ?_
       refine region ?_
       refine st_q (v := .slice a538 ((R.length + 1)) c539) (x_move rfl) ?_
       refine st_q (v := .int .i64 (((R.length + 1) : Nat) : Int)) (x_lenSl rfl Tryd.underlying27 rfl) ?_
       refine st_q (v := .int .i64 ((((R.length + 1) - 1) : Nat) : Int)) (x_subN rfl rfl (by omega) (by omega)) ?_
       refine st_q (v := .int .i64 ((((R.length + 1) - 1) : Nat) : Int)) (x_assign rfl) ?_
       refine st_nil ?_
       refine kn547 _ _ ?_
       refine blockK fun Q550 kn551 kr552 kx553 kb554 => ?_
       refine loopK (α := Nat × (List Row)) (fun x => [(0, .slice a L.length ca), (3, .slice a538 ((R.length + 1)) c539), (4, .int .i64 ((i : Nat) : Int)), (5, .int .i64 ((k : Nat) : Int)), (6, .int .i64 ((x.1 : Nat) : Int))]) (fun x w555 => Below w0.heap.size w0 w555 ∧ (k ≤ x.1 ∧ x.1 ≤ R.length ∧ Own w555.heap w0.heap.size 42 1 (.slice a538 (R.length + 1) c539) (R.length + 1) (flat enR x.2) ∧ x.2.length = R.length + 1 ∧ (∀ j, j < x.1 → el x.2 j = el R j) ∧ ∀ j, x.1 ≤ j → j < R.length → el x.2 (j + 1) = el R j) ∧ RowsW w555.heap w0.heap.size R) (fun x => x.1) (R.length, (R ++ [((none, 0), [])])) ⟨rfl, rfl, rfl, rfl, rfl, trivial⟩ ?_ ?_
       ·
        refine ⟨hE534, ?_⟩
        try dsimp only
        refine ⟨?_, hF533⟩
        exact ⟨hk, Nat.le_refl _, hO537, by simp, fun j h => el_append_left h, fun j h1 h2 => by omega⟩
       ·
        rintro τ556 ⟨m, F⟩ w557 ⟨hx559, ⟨⟨hkm, hm, hOF, hFl, hF1, hF2⟩, hC558⟩⟩
        try dsimp only at hkm hm hOF hFl hF1 hF2 hC558
        have hz560 := hx559.le
        intro Q561 kn562 kr563 ke564
        obtain ⟨bN, cN1, eN, hcN1, hOB⟩ := hOF.ob (fun e => by injection e with _ e2 _; omega)
        injection eN with eN1 eN2 eN3
        have hl565 := hOB.lo
        have hl566 := hOB.lt
        refine seqK fun Q567 kn568 kr569 ke570 => ?_
        refine seqK fun Q571 kn572 kr573 ke574 => ?_
        refine region ?_
        refine st_q (v := .int .i64 ((m : Nat) : Int)) (x_move rfl) ?_
        refine st_q (v := .int .i64 ((k : Nat) : Int)) (x_move rfl) ?_
        refine st_q (v := .bool (decide (k < m))) (x_gtrN rfl rfl) ?_
        refine st_nil ?_
        refine kn572 _ _ ?_
        refine cnd (p := k < m) rfl (fun h575 => ?_) (fun h575 => ?_)
        ·
         refine skip ?_
         refine kn568 _ _ ?_
         refine seqK fun Q576 kn577 kr578 ke579 => ?_
         refine blockK fun Q580 kn581 kr582 kx583 kb584 => ?_
         refine region ?_
         refine st_q (v := .slice a538 ((R.length + 1)) c539) (x_move rfl) ?_
         refine st_q (v := .int .i64 ((m : Nat) : Int)) (x_move rfl) ?_
         refine st_q (v := .slice a538 ((R.length + 1)) c539) (x_move rfl) ?_
         refine st_q (v := .int .i64 ((m : Nat) : Int)) (x_move rfl) ?_
         refine st_q (v := .int .i64 (((m - 1) : Nat) : Int)) (x_subN rfl rfl (by omega) (by omega)) ?_
         refine st_q (v := .pointer (some ⟨bN, 0 + ((m - 1)) * 1, none⟩)) (x_index' T.sl27 rfl eN1 rfl (by omega)) ?_
         refine st_q (v := .slice ((el F (m - 1)).1.1) ((el F (m - 1)).2.length) ((el F (m - 1)).1.2)) (x_load1 T.na42 rfl (hOB.cells.elem enR_len (i := (m - 1)) (by omega))) ?_
         refine st_q (v := .pointer (some ⟨bN, 0 + m * 1, none⟩)) (x_index' T.sl27 rfl eN1 rfl (by omega)) ?_
         refine st_s (e_stO (v := .slice ((el F (m - 1)).1.1) ((el F (m - 1)).2.length) ((el F (m - 1)).1.2)) (u := el F (m - 1)) enR_len T.sz42 rfl rfl rfl hOB (by first | omega | (rw [List.length_set]; omega)) (by rfl) ?_)
         intro w585 _ hP586 hB587
         have hs588 := hP586.size
         have hF589 := hC558.gk (hP586.grownBy) (hOB.rowk) (by decide)
         have hE590 : Below w0.heap.size w0 w585 := hP586.below hx559 (by omega)
         have hz591 := hE590.le
         refine st_nil ?_
         refine kn581 _ _ ?_
         refine kn577 _ _ ?_
         refine region ?_
         refine st_q (v := .int .i64 ((m : Nat) : Int)) (x_move rfl) ?_
         refine st_q (v := .int .i64 (((m - 1) : Nat) : Int)) (x_subN rfl rfl (by omega) (by omega)) ?_
         refine st_q (v := .int .i64 (((m - 1) : Nat) : Int)) (x_assign rfl) ?_
         refine st_nil ?_
         refine kn562 _ ((m - 1), (F.set m (el F (m - 1)))) _ ⟨rfl, rfl, rfl, rfl, rfl, trivial⟩ ⟨hE590, ?_⟩ ?_
         ·
          try dsimp only
          refine ⟨?_, hF589⟩
          exact ⟨by omega, by omega, (by rw [eN1, eN3]; exact hB587.own (by omega) (by rw [flat_length enR_len]; simp only [List.length_set]; omega)), by rw [List.length_set]; exact hFl, fun j h => by rw [el_set_off (by omega)]; exact hF1 j (by omega), fun j h1 h2 => by
            by_cases he : j = m - 1
            · subst he; rw [show m - 1 + 1 = m by omega, el_set_here (by omega)]; exact hF1 (m - 1) (by omega)
            · rw [el_set_off (by omega)]; exact hF2 j (by omega) h2⟩
         ·
          (try dsimp only); omega
        ·
         refine exit ?_
         refine ke570 _ _ _ ?_
         refine ke564 _ _ _ ?_
         refine kb554 _ _ ?_
         refine kn543 _ _ ?_
         refine region ?_
         refine st_q (v := .slice a538 ((R.length + 1)) c539) (x_move rfl) ?_
         refine st_q (v := .int .i64 ((k : Nat) : Int)) (x_move rfl) ?_
         refine st_q (v := .slice a L.length ca) (x_move rfl) ?_
         refine st_q (v := .int .i64 ((i : Nat) : Int)) (x_move rfl) ?_
         obtain ⟨b592, o593, ha594, hc595⟩ := ha.at (by omega)
         refine st_q (v := .pointer (some ⟨b592, o593 + i * 1, none⟩)) (x_index' T.sl27 rfl ha594 rfl (by omega)) ?_
         have hs596 := hL _ (el_mem' (xs := L) (i := i) (by omega))
         have hs596c := hs596.capl
         have hww := hw _ (el_mem' (xs := L) (i := i) (by omega))
         refine st_q (v := .slice ((el L i).1.1) ((el L i).2.length) ((el L i).1.2)) (x_load1 T.na42 rfl ((hc595.below hx559).elem enR_len (i := i) (by omega))) ?_
         refine st_e (e_append0 (lo := w0.heap.size) T.sl42 rfl rfl (hs596.below hx559) (ones (by exact flat_onesS)) (by omega) (by decide) (by omega) ?_)
         intro v597 w598 hO599 hG600 hN601
         have hF602 := hC558.ext hG600
         have hF603 := hOB.ext hG600
         have hE604 : Below w0.heap.size w0 w598 := hG600.e hx559 (Nat.le_refl _)
         have hz605 := hE604.le
         have hs606 := hG600.size
         obtain ⟨a607, c608, rfl, hm609, hm610⟩ := hO599.src.form
         have hW611 : RowsW w598.heap w0.heap.size (R ++ [((a607, c608), (el L i).2)]) := hF602.snoc hO599
         refine st_q (v := .pointer (some ⟨bN, 0 + k * 1, none⟩)) (x_index' T.sl27 rfl eN1 rfl (by omega)) ?_
         refine st_s (e_stO (v := .slice a607 ((el L i).2.length) c608) (u := ((a607, c608), (el L i).2)) enR_len T.sz42 rfl rfl rfl hF603 (by first | omega | (rw [List.length_set]; omega)) (by rfl) ?_)
         intro w612 _ hP613 hB614
         have hs615 := hP613.size
         have hF616 := hW611.gk (hP613.grownBy) (hF603.rowk) (by decide)
         have hE617 : Below w0.heap.size w0 w612 := hP613.below hE604 (by omega)
         have hz618 := hE617.le
         refine st_nil ?_
         refine kn45 _ _ ?_
         refine kn41 _ _ ?_
         refine region ?_
         refine st_q (v := .int .i64 ((i : Nat) : Int)) (x_move rfl) ?_
         refine st_q (v := .int .i64 (((i + 1) : Nat) : Int)) (x_addN rfl rfl (by omega)) ?_
         refine st_q (v := .int .i64 (((i + 1) : Nat) : Int)) (x_assign rfl) ?_
         refine st_nil ?_
         refine kn28 _ ((i + 1), (insAt R k ((a607, c608), (el L i).2)), .slice a538 ((R.length + 1)) c539) _ ⟨rfl, rfl, rfl, trivial⟩ ⟨hE617, ?_⟩ ?_
         ·
          try dsimp only
          have hins : (F.set k (((a607, c608), (el L i).2))) = insAt R k ((a607, c608), (el L i).2) := insAt_el (by omega) (by rw [List.length_set]; exact hFl) (fun j h => by rw [el_set_off (by omega)]; exact hF1 j (by omega)) (el_set_here (by omega)) (fun j h1 h2 => by rw [el_set_off (by omega)]; exact hF2 j (by omega) h2)
          refine ⟨by omega, ?_, ?_, ?_⟩
          · rw [tp_take_succ (by omega)]; exact isSet_step hI (by omega) (fun h0 => by have h1 := (ahd_sign (el R (k - 1)).2 (el L i).2); have h2 := hlast h0; omega) hK
          · rw [insAt_len _ _ _ (by omega), ← hins]; exact (by rw [eN1, eN3]; exact hB614.own (by omega) (by rw [flat_length enR_len]; simp only [List.length_set]; omega))
          · exact hF616.sub fun x hx => by rcases (insAt_mem _ _ _ _).1 hx with rfl | h <;> simp_all
         ·
          (try dsimp only); omega
   ·
    refine exit ?_
    refine ke34 _ _ _ ?_
    refine ke30 _ _ _ ?_
    refine kb21 _ _ ?_
    refine kn10 _ _ ?_
    refine seqK fun Q619 kn620 kr621 ke622 => ?_
    refine region ?_
    refine st_q (v := .slice aV R.length cV) (x_move rfl) ?_
    refine st_q (v := .slice aV R.length cV) (x_assign rfl) ?_
    refine st_nil ?_
    refine kn620 _ _ ?_
    refine ret ?_
    refine leave1 (P := Tryd.prog) (fn := Tryd.f22) (t := 2) (v := .slice aV R.length cV) rfl rfl ?_
    exact ⟨_, R, rfl, hx25, IsSet.uniq hI (by rw [show i = L.length by omega, List.take_length]; exact setL_is _), hO, hW⟩

end Go.Proofs.YtegpcbckiehleaaDoor
