import Derived.Test.YtgfolockecjlnaaSorts2
import Derived.Test.YtgfolockecjlnaaRows0
namespace Go.Proofs.Ytgfolockecjlnaa
open Go.RowKit Go.Eng Go.OrdPure Go.HeapPure
theorem T.sl63 : SL Try.prog 63 29 1 24 (.slice none 0 0) := sl_mk Try.underlying63 (by kernel_rfl) rfl (by decide)
theorem T.na29 : NA Try.prog 29 := fun _ => by kernel_rfl

set_option maxHeartbeats 4000000 in
theorem apart36 (lo : Nat) (vs : List S3) (bv : Nat) (w0 : World) (hlo : lo ≤ w0.heap.size) (hB0 : OB w0.heap 0 29 1 bv vs.length (flat enV vs)) (hn : vs.length ≤ 1000) (hV : ∀ j, j < vs.length → ∃ Z, Own w0.heap lo 31 2 (sv (el vs j)) (el vs j).2.1 (flat enT Z)) (hdis : Dis vs) (hmm : ∀ j, j < vs.length → (el vs j).2.1 ≤ 8796093021952) : Calls Try.prog 36 #[.slice (some ⟨bv, 0, none⟩) vs.length vs.length] w0 fun e w' => e = .returned (.bool true) ∧ Below lo w0 w' := by
  have hE0 : Mod (fun k => lo ≤ k) w0 w0 := Mod.refl _ _
  have hz0 := hE0.le
  have hbv := hB0.lt
  have hlow : Low w0.heap.size vs := fun j hj b hb => by
    obtain ⟨Z, hZ⟩ := hV j hj
    exact (hZ.lt hb).2
  have hz0 : ∀ j, j < vs.length → 0 < (el vs j).2.1 → ∃ b, (el vs j).1 = some ⟨b, 0, none⟩ := fun j hj h0 => by
    obtain ⟨Z, hZ⟩ := hV j hj
    obtain ⟨b, c, hv, _⟩ := hZ.ob (fun e => by have := (Value.slice.inj e).2.1; omega)
    exact ⟨b, (Value.slice.inj hv).1⟩
  have hl1 := hB0.lo
  have hl2 := hB0.lt
  refine enter Try.func36 rfl 120 Try.ntmps36 rfl ?_
  refine seqK fun Q3 kn4 kr5 ke6 => ?_
  refine region ?_
  refine st_q (v := .bool false) (x_assign rfl) ?_
  refine st_nil ?_
  refine kn4 _ _ ?_
  refine seqK fun Q7 kn8 kr9 ke10 => ?_
  refine seqK fun Q11 kn12 kr13 ke14 => ?_
  refine region ?_
  refine st_q (v := .int .i64 ((0 : Nat) : Int)) (x_assign rfl) ?_
  refine st_nil ?_
  refine kn12 _ _ ?_
  refine blockK fun Q15 kn16 kr17 kx18 kb19 => ?_
  refine loopK (α := Nat) (fun x => [(0, .slice ((some ⟨bv, 0, none⟩)) vs.length vs.length), (3, .int .i64 ((x : Nat) : Int))]) (fun x w20 => Mod (fun k => lo ≤ k) w0 w20 ∧ x ≤ vs.length ∧ Fam1 w20.heap lo vs x ∧ OB w20.heap 0 29 1 bv vs.length (flat enV vs)) (fun x => vs.length - x) (0) ⟨rfl, rfl, trivial⟩ ?_ ?_
  ·
    refine ⟨hE0, ?_⟩
    try dsimp only
    exact ⟨Nat.zero_le _, fun j hj => let ⟨Z, h⟩ := hV j hj; ⟨Z, h, fun h => absurd h (by omega)⟩, hB0⟩
  ·
    rintro τ21 i w22 ⟨hx23, ⟨hi, hF, hB⟩⟩
    try dsimp only at hi hF hB
    have hz24 := hx23.le
    intro Q25 kn26 kr27 ke28
    have hl29 := hB.lo
    have hl30 := hB.lt
    refine seqK fun Q31 kn32 kr33 ke34 => ?_
    refine seqK fun Q35 kn36 kr37 ke38 => ?_
    refine region ?_
    refine st_q (v := .int .i64 ((i : Nat) : Int)) (x_move rfl) ?_
    refine st_q (v := .slice ((some ⟨bv, 0, none⟩)) vs.length vs.length) (x_move rfl) ?_
    refine st_q (v := .int .i64 ((vs.length : Nat) : Int)) (x_lenSl rfl Try.underlying63 rfl) ?_
    refine st_q (v := .bool (decide (i < vs.length))) (x_lssN rfl rfl) ?_
    refine st_nil ?_
    refine kn36 _ _ ?_
    refine cnd (p := i < vs.length) rfl (fun h39 => ?_) (fun h39 => ?_)
    ·
      refine skip ?_
      refine kn32 _ _ ?_
      refine seqK fun Q40 kn41 kr42 ke43 => ?_
      refine blockK fun Q44 kn45 kr46 kx47 kb48 => ?_
      refine seqK fun Q49 kn50 kr51 ke52 => ?_
      refine region ?_
      refine st_q (v := .int .i64 ((0 : Nat) : Int)) (x_assign rfl) ?_
      refine st_nil ?_
      refine kn50 _ _ ?_
      refine blockK fun Q53 kn54 kr55 kx56 kb57 => ?_
      have hin : i < vs.length := by omega
      obtain ⟨Z0, hZ0, hZ0e⟩ := hF i hin
      have hmB := hmm i hin
      refine loopK (α := Nat × (List (Int × Int))) (fun x => [(0, .slice ((some ⟨bv, 0, none⟩)) vs.length vs.length), (3, .int .i64 ((i : Nat) : Int)), (4, .int .i64 ((x.1 : Nat) : Int))]) (fun x w58 => Mod (fun k => lo ≤ k) w0 w58 ∧ x.1 ≤ (el vs i).2.1 ∧ (∀ q, q < x.1 → el x.2 q = (((1000 + i : Nat) : Int), ((q : Nat) : Int))) ∧ Own w58.heap lo 31 2 (sv (el vs i)) (el vs i).2.1 (flat enT x.2) ∧ Fam1x w58.heap lo vs i ∧ OB w58.heap 0 29 1 bv vs.length (flat enV vs)) (fun x => (el vs i).2.1 - x.1) (0, Z0) ⟨rfl, rfl, rfl, trivial⟩ ?_ ?_
      ·
        refine ⟨hx23, ?_⟩
        try dsimp only
        exact ⟨Nat.zero_le _, fun q h => absurd h (by omega), hZ0, hF.x, hB⟩
      ·
        rintro τ59 ⟨k, Z⟩ w60 ⟨hx61, ⟨hk, hq, hO, hX, hB2⟩⟩
        try dsimp only at hk hq hO hX hB2
        have hz62 := hx61.le
        intro Q63 kn64 kr65 ke66
        have hl67 := hB2.lo
        have hl68 := hB2.lt
        have hZl := hO.lenT enT_len (by decide)
        refine seqK fun Q69 kn70 kr71 ke72 => ?_
        refine seqK fun Q73 kn74 kr75 ke76 => ?_
        refine region ?_
        refine st_q (v := .int .i64 ((k : Nat) : Int)) (x_move rfl) ?_
        refine st_q (v := .slice ((some ⟨bv, 0, none⟩)) vs.length vs.length) (x_move rfl) ?_
        refine st_q (v := .int .i64 ((i : Nat) : Int)) (x_move rfl) ?_
        refine st_q (v := .pointer (some ⟨bv, 0 + i * 1, none⟩)) (x_index T.sl63 rfl rfl (by omega)) ?_
        refine st_q (v := .slice ((el vs i).1) ((el vs i).2.1) ((el vs i).2.2)) (x_load1 T.na29 rfl (hB2.cells.elem enV_len (i := i) (by omega))) ?_
        refine st_q (v := .int .i64 (((el vs i).2.1 : Nat) : Int)) (x_lenSl rfl Try.underlying29 rfl) ?_
        refine st_q (v := .bool (decide (k < ((el vs i).2.1)))) (x_lssN rfl rfl) ?_
        refine st_nil ?_
        refine kn74 _ _ ?_
        refine cnd (p := k < ((el vs i).2.1)) rfl (fun h77 => ?_) (fun h77 => ?_)
        ·
          refine skip ?_
          refine kn70 _ _ ?_
          refine seqK fun Q78 kn79 kr80 ke81 => ?_
          refine blockK fun Q82 kn83 kr84 kx85 kb86 => ?_
          refine regionD1 [3] [0, 1, 2, 3, 4, 5, 6, 7, 9] (.one 0 (.one 1 (.one 2 (.one 3 (.one 4 (.one 5 (.one 6 (.one 7 (.one 8 (.one 9 (.one 10 .done))))))))))) (by kernel_rfl) (by kernel_rfl) ?_
          intro w87 hx88 hs89
          have hF90 := hB2.ext hx88
          have hF91 := hX.ext hx88
          have hF92 := hO.ext hx88
          have hE93 : Mod (fun k => lo ≤ k) w0 w87 := hx61.ext hx88
          have hz94 := hE93.le
          have hs95 := hx88.size
          have hS96 : Ext w87 w87 := Below.refl _ _
          refine d_q (v := .slice ((some ⟨bv, 0, none⟩)) vs.length vs.length) rfl rfl (fun _ => x_move rfl) ?_
          refine d_q (v := .int .i64 ((i : Nat) : Int)) rfl rfl (fun _ => x_move rfl) ?_
          refine d_q (v := .pointer (some ⟨bv, 0 + i * 1, none⟩)) rfl rfl (fun _ => x_index T.sl63 rfl rfl (by omega)) ?_
          refine d_l (v := .slice ((el vs i).1) ((el vs i).2.1) ((el vs i).2.2)) rfl rfl rfl (fun v98 hw97 => x_load1 T.na29 rfl ((hF90.cells.elem enV_len (i := i) (by omega)).ext hw97)) ?_
          refine d_q (v := .int .i64 ((k : Nat) : Int)) rfl rfl (fun _ => x_move rfl) ?_
          refine d_q (v := .int .i64 ((i : Nat) : Int)) rfl rfl (fun _ => x_move rfl) ?_
          refine d_q (v := .int .i64 (((1000 + i) : Nat) : Int)) rfl rfl (fun _ => x_addN rfl rfl (by omega)) ?_
          refine d_q (v := .int .i64 ((k : Nat) : Int)) rfl rfl (fun _ => x_move rfl) ?_
          refine d_e (by decide) (d_c' rfl rfl (t_call [.int .i64 (((1000 + i) : Nat) : Int), .int .i64 ((k : Nat) : Int)] T.cf27 rfl rfl) (thing27 (((1000 + i) : Nat) : Int) ((k : Nat) : Int) _) ?_)
          rintro _ w99 ⟨rfl, hx100⟩
          refine ⟨_, rfl, ?_⟩
          have hF101 := hF90.ext hx100
          have hF102 := hF91.ext hx100
          have hF103 := hF92.ext hx100
          have hE104 : Mod (fun k => lo ≤ k) w0 w99 := hE93.ext hx100
          have hz105 := hE104.le
          have hs106 := hx100.size
          have hS107 := hS96.trans (hx100.mono hS96.size)
          refine ⟨fun _ => hS107, ?_⟩
          obtain ⟨bI, cI, hvI, hmI, hOB⟩ := hF92.ob (fun e => by have := (Value.slice.inj e).2.1; omega)
          have haI : (el vs i).1 = some ⟨bI, 0, none⟩ := (Value.slice.inj hvI).1
          have hbI : bI ≠ bv := hOB.neT hF90 (by decide)
          have hbO : (sv (el vs i)).ownBlock = some bI := by rw [hvI]; rfl
          have hl108 := hOB.lo
          have hl109 := hOB.lt
          have hF110 := hOB.ext hS107
          refine d_q (v := .pointer (some ⟨bI, 0 + k * 2, none⟩)) rfl rfl (fun _ => x_index' T.sl29 rfl haI rfl (by omega)) ?_
          refine d_e (by decide) (d_s' rfl rfl (e_stO (v := .agg #[.int .i64 (((1000 + i) : Nat) : Int), .int .i64 ((k : Nat) : Int)]) (u := ((((1000 + i) : Nat) : Int), ((k : Nat) : Int))) enT_len T.sz31 rfl rfl rfl hF110 (by omega) (by rfl) ?_))
          intro w111 _ hP112 hB113
          have hs114 := hP112.size
          have hF115 := hF101.pt hP112 (by omega)
          have hF116 := hF102.pt hP112 hdis hin hbO
          have hE118 : Mod (fun k => lo ≤ k) w0 w111 := hE104.pt hP112 (.inl (by omega))
          have hz119 := hE118.le
          refine ⟨need_no (by kernel_rfl), ?_⟩
          refine d_done ?_
          refine kn83 _ _ ?_
          refine kn79 _ _ ?_
          refine region ?_
          refine st_q (v := .int .i64 ((k : Nat) : Int)) (x_move rfl) ?_
          refine st_q (v := .int .i64 (((k + 1) : Nat) : Int)) (x_addN rfl rfl (by omega)) ?_
          refine st_q (v := .int .i64 (((k + 1) : Nat) : Int)) (x_assign rfl) ?_
          refine st_nil ?_
          refine kn64 _ ((k + 1), (Z.set k (((((1000 + i) : Nat) : Int), ((k : Nat) : Int))))) _ ⟨rfl, rfl, rfl, trivial⟩ ⟨hE118, ?_⟩ ?_
          ·
            try dsimp only
            exact ⟨by omega, mk_set (by omega) hq, by rw [hvI]; exact hB113.own hmI (by rw [flat_length enT_len, List.length_set]; omega), hF116, hF115⟩
          ·
            (try dsimp only); omega
        ·
          refine exit ?_
          refine ke72 _ _ _ ?_
          refine ke66 _ _ _ ?_
          refine kb57 _ _ ?_
          refine kn45 _ _ ?_
          refine kn41 _ _ ?_
          refine region ?_
          refine st_q (v := .int .i64 ((i : Nat) : Int)) (x_move rfl) ?_
          refine st_q (v := .int .i64 (((i + 1) : Nat) : Int)) (x_addN rfl rfl (by omega)) ?_
          refine st_q (v := .int .i64 (((i + 1) : Nat) : Int)) (x_assign rfl) ?_
          refine st_nil ?_
          refine kn26 _ ((i + 1)) _ ⟨rfl, rfl, trivial⟩ ⟨hx61, ?_⟩ ?_
          ·
            try dsimp only
            obtain rfl : k = (el vs i).2.1 := by omega
            obtain rfl := mk_all hZl hq
            exact ⟨by omega, hX.join hO, hB2⟩
          ·
            (try dsimp only); omega
    ·
      refine exit ?_
      refine ke34 _ _ _ ?_
      refine ke28 _ _ _ ?_
      refine kb19 _ _ ?_
      refine kn8 _ _ ?_
      refine seqK fun Q120 kn121 kr122 ke123 => ?_
      refine region ?_
      refine st_q (v := .slice none 0 0) (x_assign rfl) ?_
      refine st_nil ?_
      refine kn121 _ _ ?_
      refine seqK fun Q124 kn125 kr126 ke127 => ?_
      refine seqK fun Q128 kn129 kr130 ke131 => ?_
      refine region ?_
      refine st_q (v := .int .i64 ((0 : Nat) : Int)) (x_assign rfl) ?_
      refine st_nil ?_
      refine kn129 _ _ ?_
      refine blockK fun Q132 kn133 kr134 kx135 kb136 => ?_
      obtain rfl : i = vs.length := by omega
      refine loopK (α := Nat × (List S3) × Value) (fun x => [(0, .slice ((some ⟨bv, 0, none⟩)) vs.length vs.length), (5, x.2.2), (6, .int .i64 ((x.1 : Nat) : Int))]) (fun x w137 => Mod (fun k => lo ≤ k) w0 w137 ∧ x.1 ≤ vs.length ∧ x.2.1.length = x.1 ∧ Fam2 w137.heap lo w0.heap.size vs x.2.1 x.1 ∧ Own w137.heap w0.heap.size 29 1 x.2.2 x.1 (flat enV x.2.1) ∧ OB w137.heap 0 29 1 bv vs.length (flat enV vs)) (fun x => vs.length - x.1) (0, [], .slice none 0 0) ⟨rfl, rfl, rfl, trivial⟩ ?_ ?_
      ·
        refine ⟨hx23, ?_⟩
        try dsimp only
        exact ⟨Nat.zero_le _, rfl, hF.two, Own.nil _ _ _ _, hB⟩
      ·
        rintro τ138 ⟨i, Ls, v⟩ w139 ⟨hx140, ⟨hi, hLs, hF3, hL, hB3⟩⟩
        try dsimp only at hi hLs hF3 hL hB3
        have hz141 := hx140.le
        intro Q142 kn143 kr144 ke145
        have hl146 := hB3.lo
        have hl147 := hB3.lt
        obtain ⟨aL, cL, rfl, hcL, hcL1⟩ := hL.src.form
        refine seqK fun Q148 kn149 kr150 ke151 => ?_
        refine seqK fun Q152 kn153 kr154 ke155 => ?_
        refine region ?_
        refine st_q (v := .int .i64 ((i : Nat) : Int)) (x_move rfl) ?_
        refine st_q (v := .slice ((some ⟨bv, 0, none⟩)) vs.length vs.length) (x_move rfl) ?_
        refine st_q (v := .int .i64 ((vs.length : Nat) : Int)) (x_lenSl rfl Try.underlying63 rfl) ?_
        refine st_q (v := .bool (decide (i < vs.length))) (x_lssN rfl rfl) ?_
        refine st_nil ?_
        refine kn153 _ _ ?_
        refine cnd (p := i < vs.length) rfl (fun h156 => ?_) (fun h156 => ?_)
        ·
          refine skip ?_
          refine kn149 _ _ ?_
          refine seqK fun Q157 kn158 kr159 ke160 => ?_
          refine blockK fun Q161 kn162 kr163 kx164 kb165 => ?_
          refine seqK fun Q166 kn167 kr168 ke169 => ?_
          refine region ?_
          refine st_q (v := .slice ((some ⟨bv, 0, none⟩)) vs.length vs.length) (x_move rfl) ?_
          refine st_q (v := .int .i64 ((i : Nat) : Int)) (x_move rfl) ?_
          refine st_q (v := .pointer (some ⟨bv, 0 + i * 1, none⟩)) (x_index T.sl63 rfl rfl (by omega)) ?_
          refine st_q (v := .slice ((el vs i).1) ((el vs i).2.1) ((el vs i).2.2)) (x_load1 T.na29 rfl (hB3.cells.elem enV_len (i := i) (by omega))) ?_
          refine st_q (v := .slice ((el vs i).1) ((el vs i).2.1) ((el vs i).2.2)) (x_assign rfl) ?_
          refine st_nil ?_
          refine kn167 _ _ ?_
          refine seqK fun Q170 kn171 kr172 ke173 => ?_
          refine seqK fun Q174 kn175 kr176 ke177 => ?_
          refine region ?_
          refine st_q (v := .int .i64 ((0 : Nat) : Int)) (x_assign rfl) ?_
          refine st_nil ?_
          refine kn175 _ _ ?_
          refine blockK fun Q178 kn179 kr180 kx181 kb182 => ?_
          have hin : i < vs.length := by omega
          have hmB := hmm i hin
          obtain ⟨hR1, hR2, _⟩ := hF3 i hin
          refine loopK (α := Nat × S3) (fun x => [(0, .slice ((some ⟨bv, 0, none⟩)) vs.length vs.length), (5, .slice aL i cL), (6, .int .i64 ((i : Nat) : Int)), (7, .slice x.2.1 x.2.2.1 x.2.2.2), (8, .int .i64 ((x.1 : Nat) : Int))]) (fun x w183 => Mod (fun k => lo ≤ k) w0 w183 ∧ x.1 ≤ 30 ∧ Own w183.heap lo 31 2 (sv x.2) ((el vs i).2.1 + x.1) (flat enT (mk i ((el vs i).2.1 + x.1))) ∧ MW w0.heap.size vs Ls i x.2 ∧ Src w183.heap (sv (el vs i)) (el vs i).2.1 2 (flat enT (mk i (el vs i).2.1)) ∧ Fam2x w183.heap lo w0.heap.size vs Ls i ∧ Own w183.heap w0.heap.size 29 1 (.slice aL i cL) i (flat enV Ls) ∧ OB w183.heap 0 29 1 bv vs.length (flat enV vs)) (fun x => 30 - x.1) (0, el vs i) ⟨rfl, rfl, rfl, rfl, rfl, trivial⟩ ?_ ?_
          ·
            refine ⟨hx140, ?_⟩
            try dsimp only
            exact ⟨Nat.zero_le _, hR2 (Nat.le_refl _), MW.start hF3 hdis hlow hin, hR1, hF3.x, hL, hB3⟩
          ·
            rintro τ184 ⟨k, M⟩ w185 ⟨hx186, ⟨hk, hM, hMW, hS, hX, hL2, hB4⟩⟩
            try dsimp only at hk hM hMW hS hX hL2 hB4
            have hz187 := hx186.le
            intro Q188 kn189 kr190 ke191
            have hl192 := hB4.lo
            have hl193 := hB4.lt
            refine seqK fun Q194 kn195 kr196 ke197 => ?_
            refine seqK fun Q198 kn199 kr200 ke201 => ?_
            refine region ?_
            refine st_q (v := .int .i64 ((k : Nat) : Int)) (x_move rfl) ?_
            refine st_q (v := .bool (decide (k < 30))) (x_lssN rfl rfl) ?_
            refine st_nil ?_
            refine kn199 _ _ ?_
            refine cnd (p := k < 30) rfl (fun h202 => ?_) (fun h202 => ?_)
            ·
              refine skip ?_
              refine kn195 _ _ ?_
              refine seqK fun Q203 kn204 kr205 ke206 => ?_
              refine blockK fun Q207 kn208 kr209 kx210 kb211 => ?_
              refine region ?_
              refine st_q (v := .slice M.1 M.2.1 M.2.2) (x_move rfl) ?_
              refine st_q (v := .int .i64 ((i : Nat) : Int)) (x_move rfl) ?_
              refine st_q (v := .int .i64 (((1000 + i) : Nat) : Int)) (x_addN rfl rfl (by omega)) ?_
              refine st_q (v := .slice ((some ⟨bv, 0, none⟩)) vs.length vs.length) (x_move rfl) ?_
              refine st_q (v := .int .i64 ((i : Nat) : Int)) (x_move rfl) ?_
              refine st_q (v := .pointer (some ⟨bv, 0 + i * 1, none⟩)) (x_index T.sl63 rfl rfl (by omega)) ?_
              refine st_q (v := .slice ((el vs i).1) ((el vs i).2.1) ((el vs i).2.2)) (x_load1 T.na29 rfl (hB4.cells.elem enV_len (i := i) (by omega))) ?_
              refine st_q (v := .int .i64 (((el vs i).2.1 : Nat) : Int)) (x_lenSl rfl Try.underlying29 rfl) ?_
              refine st_q (v := .int .i64 ((k : Nat) : Int)) (x_move rfl) ?_
              refine st_q (v := .int .i64 ((((el vs i).2.1 + k) : Nat) : Int)) (x_addN rfl rfl (by omega)) ?_
              refine st_c (t_call [.int .i64 (((1000 + i) : Nat) : Int), .int .i64 ((((el vs i).2.1 + k) : Nat) : Int)] T.cf27 rfl rfl) (thing27 (((1000 + i) : Nat) : Int) ((((el vs i).2.1 + k) : Nat) : Int) _) ?_
              rintro _ w212 ⟨rfl, hx213⟩
              refine ⟨_, rfl, ?_⟩
              have hF214 := hB4.ext hx213
              have hF215 := hX.ext hx213
              have hF216 := hS.ext hx213
              have hF217 := hM.ext hx213
              have hF218 := hL2.ext hx213
              have hE219 : Mod (fun k => lo ≤ k) w0 w212 := hx186.ext hx213
              have hz220 := hE219.le
              have hs221 := hx213.size
              refine st_e (e_buildSlice (cs := [.int .i64 (((1000 + i) : Nat) : Int), .int .i64 ((((el vs i).2.1 + k) : Nat) : Int)]) (e := 31) (fun _ => by kernel_rfl) ?_)
              intro w222 hA223
              have hx224 := hA223.ext
              have hs225 := hA223.size
              have hB226 : Blk w222.heap w212.heap.size [.int .i64 (((1000 + i) : Nat) : Int), .int .i64 ((((el vs i).2.1 + k) : Nat) : Int)] 31 := hA223.new
              have hF227 := hF214.ext hx224
              have hF228 := hF215.ext hx224
              have hF229 := hF216.ext hx224
              have hF230 := hF217.ext hx224
              have hF231 := hF218.ext hx224
              have hE232 : Mod (fun k => lo ≤ k) w0 w222 := hE219.ext hx224
              have hz233 := hE232.le
              have hs234 := hx224.size
              refine st_e (e_appendX T.sl29 rfl rfl hF230 (hB226.src1 (k := 2) (m := 1) rfl (by omega)) (ones (by rfl)) (by omega) (by decide) (by omega) ?_)
              intro v235 w236 hO237 hG238 hN239 hW240
              have hF241 := hF227.grownT hG238 (row := sv M) hF230 (by decide)
              have hF242 := hF228.grown (M := M) hG238 hMW hdis hlow hin
              have hF243 := Src.grownM (M := M) hF229 (hz0 i hin) hG238 hO237 (mk_pre2 i (el vs i).2.1 k (((1000 + i : Nat) : Int), (((el vs i).2.1 + k : Nat) : Int))) hW240
              have hF244 := hF231.grownT hG238 (row := sv M) hF230 (by decide)
              have hE245 : Mod (fun k => lo ≤ k) w0 w236 := hE232.grown hG238 (fun b hb => .inl (hF230.lt hb).1)
              have hz246 := hE245.le
              have hs247 := hG238.size
              have hO248 := Own.snoc (enc := enT) (u := ((((1000 + i) : Nat) : Int), ((((el vs i).2.1 + k) : Nat) : Int))) hO237
              obtain ⟨a249, c250, rfl, hm251, hm252⟩ := hO248.src.form
              refine st_q (v := .slice a249 ((((el vs i).2.1 + k) + 1)) c250) (x_assign rfl) ?_
              refine st_nil ?_
              refine kn208 _ _ ?_
              refine kn204 _ _ ?_
              refine region ?_
              refine st_q (v := .int .i64 ((k : Nat) : Int)) (x_move rfl) ?_
              refine st_q (v := .int .i64 (((k + 1) : Nat) : Int)) (x_addN rfl rfl (by omega)) ?_
              refine st_q (v := .int .i64 (((k + 1) : Nat) : Int)) (x_assign rfl) ?_
              refine st_nil ?_
              refine kn189 _ ((k + 1), (a249, (((el vs i).2.1 + k) + 1), c250)) _ ⟨rfl, rfl, rfl, rfl, rfl, trivial⟩ ⟨hE245, ?_⟩ ?_
              ·
                try dsimp only
                have hMW2 : MW w0.heap.size vs Ls i (a249, (((el vs i).2.1 + k) + 1), c250) := hMW.step hW240 hF228 (by omega) hin
                exact ⟨by omega, by rw [show (el vs i).2.1 + (k + 1) = (el vs i).2.1 + k + 1 from rfl, mk_succ]; exact hO248, hMW2, hF243, hF242, hF244, hF241⟩
              ·
                (try dsimp only); omega
            ·
              refine exit ?_
              refine ke197 _ _ _ ?_
              refine ke191 _ _ _ ?_
              refine kb182 _ _ ?_
              refine kn171 _ _ ?_
              refine region ?_
              refine st_q (v := .slice aL i cL) (x_move rfl) ?_
              refine st_q (v := .slice M.1 M.2.1 M.2.2) (x_move rfl) ?_
              refine st_e (e_buildSlice (cs := [.slice M.1 M.2.1 M.2.2]) (e := 29) (fun _ => by kernel_rfl) ?_)
              intro w253 hA254
              have hx255 := hA254.ext
              have hs256 := hA254.size
              have hB257 : Blk w253.heap w185.heap.size [.slice M.1 M.2.1 M.2.2] 29 := hA254.new
              have hF258 := hB4.ext hx255
              have hF259 := hX.ext hx255
              have hF260 := hS.ext hx255
              have hF261 := hM.ext hx255
              have hF262 := hL2.ext hx255
              have hE263 : Mod (fun k => lo ≤ k) w0 w253 := hx186.ext hx255
              have hz264 := hE263.le
              have hs265 := hx255.size
              refine st_e (e_appendX T.sl63 rfl rfl hF262 (hB257.src1 (k := 1) (m := 1) rfl (by omega)) (ones (by rfl)) (by omega) (by decide) (by omega) ?_)
              intro v266 w267 hO268 hG269 hN270 hW271
              have hF272 := hF258.grown hG269 (fun e => by first | exact hne e | (have := (hF262.lt e).1; clear e; omega) | (have := (hO.lt e).2; clear e; omega))
              have hF273 := hF259.grownL hG269 hF262 hlow
              have hF274 := Src.grownL hF260 hG269 hF262 hlow hin
              have hF275 := hF261.grownT hG269 hF262 (by decide)
              have hE276 : Mod (fun k => lo ≤ k) w0 w267 := hE263.grown hG269 (fun b hb => .inr (hF262.lt hb).1)
              have hz277 := hE276.le
              have hs278 := hG269.size
              have hO279 := Own.snoc (enc := enV) (u := (M.1, M.2.1, M.2.2)) hO268
              obtain ⟨a280, c281, rfl, hm282, hm283⟩ := hO279.src.form
              refine st_q (v := .slice a280 ((i + 1)) c281) (x_assign rfl) ?_
              refine st_nil ?_
              refine kn162 _ _ ?_
              refine kn158 _ _ ?_
              refine region ?_
              refine st_q (v := .int .i64 ((i : Nat) : Int)) (x_move rfl) ?_
              refine st_q (v := .int .i64 (((i + 1) : Nat) : Int)) (x_addN rfl rfl (by omega)) ?_
              refine st_q (v := .int .i64 (((i + 1) : Nat) : Int)) (x_assign rfl) ?_
              refine st_nil ?_
              refine kn143 _ ((i + 1), (Ls ++ [(M.1, M.2.1, M.2.2)]), .slice a280 ((i + 1)) c281) _ ⟨rfl, rfl, rfl, trivial⟩ ⟨hE276, ?_⟩ ?_
              ·
                try dsimp only
                obtain rfl : k = 30 := by omega
                exact ⟨by omega, by rw [List.length_append, List.length_singleton, hLs], hF273.join hLs hF274 hF275 hMW, hO279, hF272⟩
              ·
                (try dsimp only); omega
        ·
          refine exit ?_
          refine ke151 _ _ _ ?_
          refine ke145 _ _ _ ?_
          refine kb136 _ _ ?_
          refine kn125 _ _ ?_
          refine seqK fun Q284 kn285 kr286 ke287 => ?_
          refine seqK fun Q288 kn289 kr290 ke291 => ?_
          refine region ?_
          refine st_q (v := .int .i64 ((0 : Nat) : Int)) (x_assign rfl) ?_
          refine st_nil ?_
          refine kn289 _ _ ?_
          refine blockK fun Q292 kn293 kr294 kx295 kb296 => ?_
          refine loopK (α := Nat) (fun x => [(0, .slice ((some ⟨bv, 0, none⟩)) vs.length vs.length), (5, .slice aL i cL), (9, .int .i64 ((x : Nat) : Int))]) (fun x w297 => Ext w139 w297 ∧ True) (fun x => vs.length - x) (0) ⟨rfl, rfl, rfl, trivial⟩ ?_ ?_
          ·
            refine ⟨Below.refl _ _, ?_⟩
            try dsimp only
            all_goals exact trivial
          ·
            rintro τ298 p w299 ⟨hx300, _⟩
            have hF301 := hB3.ext hx300
            have hF302 := hF3.ext hx300
            have hF303 := hL.ext hx300
            have hE304 : Mod (fun k => lo ≤ k) w0 w299 := hx140.ext hx300
            have hz305 := hE304.le
            have hs306 := hx300.size
            intro Q307 kn308 kr309 ke310
            refine seqK fun Q311 kn312 kr313 ke314 => ?_
            refine seqK fun Q315 kn316 kr317 ke318 => ?_
            refine region ?_
            refine st_q (v := .int .i64 ((p : Nat) : Int)) (x_move rfl) ?_
            refine st_q (v := .slice ((some ⟨bv, 0, none⟩)) vs.length vs.length) (x_move rfl) ?_
            refine st_q (v := .int .i64 ((vs.length : Nat) : Int)) (x_lenSl rfl Try.underlying63 rfl) ?_
            refine st_q (v := .bool (decide (p < vs.length))) (x_lssN rfl rfl) ?_
            refine st_nil ?_
            refine kn316 _ _ ?_
            refine cnd (p := p < vs.length) rfl (fun h319 => ?_) (fun h319 => ?_)
            ·
              refine skip ?_
              refine kn312 _ _ ?_
              refine seqK fun Q320 kn321 kr322 ke323 => ?_
              refine blockK fun Q324 kn325 kr326 kx327 kb328 => ?_
              refine seqK fun Q329 kn330 kr331 ke332 => ?_
              refine region ?_
              refine st_q (v := .int .i64 ((0 : Nat) : Int)) (x_assign rfl) ?_
              refine st_nil ?_
              refine kn330 _ _ ?_
              refine blockK fun Q333 kn334 kr335 kx336 kb337 => ?_
              have hpn : p < vs.length := by omega
              obtain ⟨hR1, _, hR2⟩ := hF302 p hpn
              have hR3 := (hR2 (by omega)).1
              have hlenL : (el Ls p).2.1 = (el vs p).2.1 + 30 := hR3.len_val
              have hmB := hmm p hpn
              have hmk1 := mk_len p (el vs p).2.1
              have hmk2 := mk_len p ((el vs p).2.1 + 30)
              refine loopK (α := Nat) (fun x => [(0, .slice ((some ⟨bv, 0, none⟩)) vs.length vs.length), (5, .slice aL i cL), (9, .int .i64 ((p : Nat) : Int)), (10, .int .i64 ((x : Nat) : Int))]) (fun x w338 => Ext w299 w338 ∧ True) (fun x => (el Ls p).2.1 - x) (0) ⟨rfl, rfl, rfl, rfl, trivial⟩ ?_ ?_
              ·
                refine ⟨Below.refl _ _, ?_⟩
                try dsimp only
                all_goals exact trivial
              ·
                rintro τ339 q w340 ⟨hx341, _⟩
                have hF342 := hF301.ext hx341
                have hF343 := hF302.ext hx341
                have hF344 := hF303.ext hx341
                have hF345 := hx341.e hx300 (Nat.le_refl _)
                have hF346 := hR1.ext hx341
                have hF347 := hR3.ext hx341
                have hE348 : Mod (fun k => lo ≤ k) w0 w340 := hE304.ext hx341
                have hz349 := hE348.le
                have hs350 := hx341.size
                intro Q351 kn352 kr353 ke354
                refine seqK fun Q355 kn356 kr357 ke358 => ?_
                refine seqK fun Q359 kn360 kr361 ke362 => ?_
                refine region ?_
                refine st_q (v := .int .i64 ((q : Nat) : Int)) (x_move rfl) ?_
                refine st_q (v := .slice aL i cL) (x_move rfl) ?_
                refine st_q (v := .int .i64 ((p : Nat) : Int)) (x_move rfl) ?_
                obtain ⟨b363, o364, ha365, hc366⟩ := hF344.src.at (by omega)
                refine st_q (v := .pointer (some ⟨b363, o364 + p * 1, none⟩)) (x_index' T.sl63 rfl ha365 rfl (by omega)) ?_
                refine st_q (v := .slice ((el Ls p).1) ((el Ls p).2.1) ((el Ls p).2.2)) (x_load1 T.na29 rfl (hc366.elem enV_len (i := p) (by omega))) ?_
                refine st_q (v := .int .i64 (((el Ls p).2.1 : Nat) : Int)) (x_lenSl rfl Try.underlying29 rfl) ?_
                refine st_q (v := .bool (decide (q < ((el Ls p).2.1)))) (x_lssN rfl rfl) ?_
                refine st_nil ?_
                refine kn360 _ _ ?_
                refine cnd (p := q < ((el Ls p).2.1)) rfl (fun h367 => ?_) (fun h367 => ?_)
                ·
                  refine skip ?_
                  refine kn356 _ _ ?_
                  refine seqK fun Q368 kn369 kr370 ke371 => ?_
                  refine blockK fun Q372 kn373 kr374 kx375 kb376 => ?_
                  refine seqK fun Q377 kn378 kr379 ke380 => ?_
                  refine regionD1 [3, 6, 17, 24, 27, 31, 34] [0, 1, 2, 3, 4, 5, 6, 7, 8, 9, 11, 12, 13, 14, 15, 16, 17, 18, 19, 20, 21, 22, 23, 24, 25, 26, 27, 28, 29, 30, 31, 32, 33, 34, 35, 36, 37] (.one 0 (.one 1 (.one 2 (.one 3 (.one 4 (.one 5 (.one 6 (.one 7 (.one 8 (.one 9 (.one 10 (.one 11 (.one 12 (.one 13 (.one 14 (.one 15 (.one 16 (.one 17 (.one 18 (.one 19 (.one 20 (.one 21 (.one 22 (.one 23 (.one 24 (.one 25 (.one 26 (.one 27 (.one 28 (.one 29 (.one 30 (.one 31 (.one 32 (.one 33 (.one 34 (.one 35 (.one 36 (.one 37 .done)))))))))))))))))))))))))))))))))))))) (by kernel_rfl) (by kernel_rfl) ?_
                  intro w381 hx382 hs383
                  have hF384 := hF342.ext hx382
                  have hF385 := hF343.ext hx382
                  have hF386 := hF344.ext hx382
                  have hF387 := hx382.e hF345 (Nat.le_refl _)
                  have hF388 := hF346.ext hx382
                  have hF389 := hF347.ext hx382
                  have hF390 := hx382.e hx341 (Nat.le_refl _)
                  have hF391 := hc366.ext hx382
                  have hE392 : Mod (fun k => lo ≤ k) w0 w381 := hE348.ext hx382
                  have hz393 := hE392.le
                  have hs394 := hx382.size
                  have hS395 : Ext w381 w381 := Below.refl _ _
                  refine d_q (v := .slice aL i cL) rfl rfl (fun _ => x_move rfl) ?_
                  refine d_q (v := .int .i64 ((p : Nat) : Int)) rfl rfl (fun _ => x_move rfl) ?_
                  obtain ⟨b396, o397, ha398, hc399⟩ := hF386.src.at (by omega)
                  refine d_q (v := .pointer (some ⟨b396, o397 + p * 1, none⟩)) rfl rfl (fun _ => x_index' T.sl63 rfl ha398 rfl (by omega)) ?_
                  refine d_l (v := .slice ((el Ls p).1) ((el Ls p).2.1) ((el Ls p).2.2)) rfl rfl rfl (fun v401 hw400 => x_load1 T.na29 rfl ((hc399.elem enV_len (i := p) (by omega)).ext hw400)) ?_
                  refine d_q (v := .int .i64 ((q : Nat) : Int)) rfl rfl (fun _ => x_move rfl) ?_
                  obtain ⟨b402, o403, ha404, hc405⟩ := hF389.src.at (by omega)
                  refine d_q (v := .pointer (some ⟨b402, o403 + q * 2, none⟩)) rfl rfl (fun _ => x_index' T.sl29 rfl ha404 rfl (by omega)) ?_
                  refine d_l (v := .agg #[.int .i64 ((el (mk p ((el vs p).2.1 + 30)) q).1), .int .i64 ((el (mk p ((el vs p).2.1 + 30)) q).2)]) rfl rfl rfl (fun v407 hw406 => x_loadA [.int .i64 ((el (mk p ((el vs p).2.1 + 30)) q).1), .int .i64 ((el (mk p ((el vs p).2.1 + 30)) q).2)] T.ag31 rfl ((hc405.elem enT_len (i := q) (by omega)).ext hw406)) ?_
                  refine d_q (v := .int .i64 ((p : Nat) : Int)) rfl rfl (fun _ => x_move rfl) ?_
                  refine d_q (v := .int .i64 (((1000 + p) : Nat) : Int)) rfl rfl (fun _ => x_addN rfl rfl (by omega)) ?_
                  refine d_q (v := .int .i64 ((q : Nat) : Int)) rfl rfl (fun _ => x_move rfl) ?_
                  refine d_e (by decide) (d_c' rfl rfl (t_call [.int .i64 (((1000 + p) : Nat) : Int), .int .i64 ((q : Nat) : Int)] T.cf27 rfl rfl) (thing27 (((1000 + p) : Nat) : Int) ((q : Nat) : Int) _) ?_)
                  rintro _ w408 ⟨rfl, hx409⟩
                  refine ⟨_, rfl, ?_⟩
                  have hF410 := hF384.ext hx409
                  have hF411 := hF385.ext hx409
                  have hF412 := hF386.ext hx409
                  have hF413 := hx409.e hF387 (Nat.le_refl _)
                  have hF414 := hF388.ext hx409
                  have hF415 := hF389.ext hx409
                  have hF416 := hx409.e hF390 (Nat.le_refl _)
                  have hF417 := hF391.ext hx409
                  have hF418 := hc399.ext hx409
                  have hF419 := hc405.ext hx409
                  have hE420 : Mod (fun k => lo ≤ k) w0 w408 := hE392.ext hx409
                  have hz421 := hE420.le
                  have hs422 := hx409.size
                  have hS423 := hS395.trans (hx409.mono hS395.size)
                  refine ⟨fun _ => hS423, ?_⟩
                  refine d_q (v := .bool (decide (¬ ((el (mk p ((el vs p).2.1 + 30)) q) = ((((1000 + p) : Nat) : Int), ((q : Nat) : Int)))))) rfl rfl (fun _ => x_neq2 T.eq2_31 rfl rfl) ?_
                  refine d_if rfl rfl (p := ¬ ((el (mk p ((el vs p).2.1 + 30)) q) = ((((1000 + p) : Nat) : Int), ((q : Nat) : Int)))) (fun _ => x_move rfl) (fun h424 => ?_) (fun h424 => ?_)
                  ·
                    exact absurd h424 (not_not_intro (el_mk (by omega)))
                  ·
                    refine d_gq (v := .int .i64 ((q : Nat) : Int)) (j := 12) (t := 94) rfl rfl rfl rfl (by decide) (fun _ => x_move rfl) ?_
                    refine d_gq (v := .slice ((some ⟨bv, 0, none⟩)) vs.length vs.length) (j := 12) (t := 94) rfl rfl rfl rfl (by decide) (fun _ => x_move rfl) ?_
                    refine d_gq (v := .int .i64 ((p : Nat) : Int)) (j := 12) (t := 94) rfl rfl rfl rfl (by decide) (fun _ => x_move rfl) ?_
                    refine d_gq (v := .pointer (some ⟨bv, 0 + p * 1, none⟩)) (j := 12) (t := 94) rfl rfl rfl rfl (by decide) (fun _ => x_index T.sl63 rfl rfl (by omega)) ?_
                    refine d_gl (v := .slice ((el vs p).1) ((el vs p).2.1) ((el vs p).2.2)) (j := 12) (t := 94) rfl rfl rfl rfl rfl (by decide) (fun v426 hw425 => x_load1 T.na29 rfl ((hF384.cells.elem enV_len (i := p) (by omega)).ext hw425)) ?_
                    refine d_gq (v := .int .i64 (((el vs p).2.1 : Nat) : Int)) (j := 12) (t := 94) rfl rfl rfl rfl (by decide) (fun _ => x_lenSl rfl Try.underlying29 rfl) ?_
                    refine d_gq (v := .bool (decide (q < ((el vs p).2.1)))) (j := 12) (t := 94) rfl rfl rfl rfl (by decide) (fun _ => x_lssN rfl rfl) ?_
                    refine d_gif (j := 12) (t := 94) rfl rfl rfl rfl (by decide) (p := q < ((el vs p).2.1)) (fun _ => x_move rfl) (fun h427 => ?_) (fun h427 => ?_)
                    ·
                      refine d_gq (v := .slice ((some ⟨bv, 0, none⟩)) vs.length vs.length) (j := 20) (t := 102) rfl rfl rfl rfl (by decide) (fun _ => x_move rfl) ?_
                      refine d_gq (v := .int .i64 ((p : Nat) : Int)) (j := 20) (t := 102) rfl rfl rfl rfl (by decide) (fun _ => x_move rfl) ?_
                      refine d_gq (v := .pointer (some ⟨bv, 0 + p * 1, none⟩)) (j := 20) (t := 102) rfl rfl rfl rfl (by decide) (fun _ => x_index T.sl63 rfl rfl (by omega)) ?_
                      refine d_gl (v := .slice ((el vs p).1) ((el vs p).2.1) ((el vs p).2.2)) (j := 20) (t := 102) rfl rfl rfl rfl rfl (by decide) (fun v429 hw428 => x_load1 T.na29 rfl ((hF384.cells.elem enV_len (i := p) (by omega)).ext hw428)) ?_
                      refine d_gq (v := .int .i64 ((q : Nat) : Int)) (j := 20) (t := 102) rfl rfl rfl rfl (by decide) (fun _ => x_move rfl) ?_
                      obtain ⟨b430, o431, ha432, hc433⟩ := hF388.at (by omega)
                      have hF434 := hc433.ext hS423
                      refine d_gq (v := .pointer (some ⟨b430, o431 + q * 2, none⟩)) (j := 20) (t := 102) rfl rfl rfl rfl (by decide) (fun _ => x_index' T.sl29 rfl ha432 rfl (by omega)) ?_
                      refine d_gl (v := .agg #[.int .i64 ((el (mk p (el vs p).2.1) q).1), .int .i64 ((el (mk p (el vs p).2.1) q).2)]) (j := 20) (t := 102) rfl rfl rfl rfl rfl (by decide) (fun v436 hw435 => x_loadA [.int .i64 ((el (mk p (el vs p).2.1) q).1), .int .i64 ((el (mk p (el vs p).2.1) q).2)] T.ag31 rfl ((hc433.elem enT_len (i := q) (by omega)).ext hw435)) ?_
                      refine d_gq (v := .slice aL i cL) (j := 20) (t := 102) rfl rfl rfl rfl (by decide) (fun _ => x_move rfl) ?_
                      refine d_gq (v := .int .i64 ((p : Nat) : Int)) (j := 20) (t := 102) rfl rfl rfl rfl (by decide) (fun _ => x_move rfl) ?_
                      obtain ⟨b437, o438, ha439, hc440⟩ := hF386.src.at (by omega)
                      have hF441 := hc440.ext hS423
                      refine d_gq (v := .pointer (some ⟨b437, o438 + p * 1, none⟩)) (j := 20) (t := 102) rfl rfl rfl rfl (by decide) (fun _ => x_index' T.sl63 rfl ha439 rfl (by omega)) ?_
                      refine d_gl (v := .slice ((el Ls p).1) ((el Ls p).2.1) ((el Ls p).2.2)) (j := 20) (t := 102) rfl rfl rfl rfl rfl (by decide) (fun v443 hw442 => x_load1 T.na29 rfl ((hc440.elem enV_len (i := p) (by omega)).ext hw442)) ?_
                      refine d_gq (v := .int .i64 ((q : Nat) : Int)) (j := 20) (t := 102) rfl rfl rfl rfl (by decide) (fun _ => x_move rfl) ?_
                      obtain ⟨b444, o445, ha446, hc447⟩ := hF389.src.at (by omega)
                      have hF448 := hc447.ext hS423
                      refine d_gq (v := .pointer (some ⟨b444, o445 + q * 2, none⟩)) (j := 20) (t := 102) rfl rfl rfl rfl (by decide) (fun _ => x_index' T.sl29 rfl ha446 rfl (by omega)) ?_
                      refine d_gl (v := .agg #[.int .i64 ((el (mk p ((el vs p).2.1 + 30)) q).1), .int .i64 ((el (mk p ((el vs p).2.1 + 30)) q).2)]) (j := 20) (t := 102) rfl rfl rfl rfl rfl (by decide) (fun v450 hw449 => x_loadA [.int .i64 ((el (mk p ((el vs p).2.1 + 30)) q).1), .int .i64 ((el (mk p ((el vs p).2.1 + 30)) q).2)] T.ag31 rfl ((hc447.elem enT_len (i := q) (by omega)).ext hw449)) ?_
                      refine d_gq (v := .bool (decide (¬ ((el (mk p (el vs p).2.1) q) = (el (mk p ((el vs p).2.1 + 30)) q))))) (j := 20) (t := 102) rfl rfl rfl rfl (by decide) (fun _ => x_neq2 T.eq2_31 rfl rfl) ?_
                      refine d_gq (v := .bool (decide (¬ ((el (mk p (el vs p).2.1) q) = (el (mk p ((el vs p).2.1 + 30)) q))))) (j := 12) (t := 94) rfl rfl rfl rfl (by decide) (fun _ => x_pickT rfl rfl) ?_
                      refine d_q (v := .bool (decide (¬ ((el (mk p (el vs p).2.1) q) = (el (mk p ((el vs p).2.1 + 30)) q))))) rfl rfl (fun _ => x_pickF rfl rfl) ?_
                      refine d_done ?_
                      refine kn378 _ _ ?_
                      refine cnd (p := ¬ ((el (mk p (el vs p).2.1) q) = (el (mk p ((el vs p).2.1 + 30)) q))) rfl (fun h451 => ?_) (fun h451 => ?_)
                      ·
                        exact absurd h451 (not_not_intro (by rw [el_mk (by omega), el_mk (by omega)]))
                      ·
                        refine skip ?_
                        refine kn373 _ _ ?_
                        refine kn369 _ _ ?_
                        refine region ?_
                        refine st_q (v := .int .i64 ((q : Nat) : Int)) (x_move rfl) ?_
                        refine st_q (v := .int .i64 (((q + 1) : Nat) : Int)) (x_addN rfl rfl (by omega)) ?_
                        refine st_q (v := .int .i64 (((q + 1) : Nat) : Int)) (x_assign rfl) ?_
                        refine st_nil ?_
                        refine kn352 _ ((q + 1)) _ ⟨rfl, rfl, rfl, rfl, trivial⟩ ⟨hF416, ?_⟩ ?_
                        ·
                          try dsimp only
                          all_goals exact trivial
                        ·
                          (try dsimp only); omega
                    ·
                      refine d_gn (j := 20) (t := 102) rfl rfl rfl rfl (by decide) rfl ?_
                      refine d_gn (j := 20) (t := 102) rfl rfl rfl rfl (by decide) rfl ?_
                      refine d_gn (j := 20) (t := 102) rfl rfl rfl rfl (by decide) rfl ?_
                      refine d_gn (j := 20) (t := 102) rfl rfl rfl rfl (by decide) rfl ?_
                      refine d_gn (j := 20) (t := 102) rfl rfl rfl rfl (by decide) rfl ?_
                      refine d_gn (j := 20) (t := 102) rfl rfl rfl rfl (by decide) rfl ?_
                      refine d_gn (j := 20) (t := 102) rfl rfl rfl rfl (by decide) rfl ?_
                      refine d_gn (j := 20) (t := 102) rfl rfl rfl rfl (by decide) rfl ?_
                      refine d_gn (j := 20) (t := 102) rfl rfl rfl rfl (by decide) rfl ?_
                      refine d_gn (j := 20) (t := 102) rfl rfl rfl rfl (by decide) rfl ?_
                      refine d_gn (j := 20) (t := 102) rfl rfl rfl rfl (by decide) rfl ?_
                      refine d_gn (j := 20) (t := 102) rfl rfl rfl rfl (by decide) rfl ?_
                      refine d_gn (j := 20) (t := 102) rfl rfl rfl rfl (by decide) rfl ?_
                      refine d_gn (j := 20) (t := 102) rfl rfl rfl rfl (by decide) rfl ?_
                      refine d_gn (j := 20) (t := 102) rfl rfl rfl rfl (by decide) rfl ?_
                      refine d_gq (v := .bool false) (j := 12) (t := 94) rfl rfl rfl rfl (by decide) (fun _ => x_pickF rfl rfl) ?_
                      refine d_q (v := .bool false) rfl rfl (fun _ => x_pickF rfl rfl) ?_
                      refine d_done ?_
                      refine kn378 _ _ ?_
                      refine cndF rfl ?_
                      refine skip ?_
                      refine kn373 _ _ ?_
                      refine kn369 _ _ ?_
                      refine region ?_
                      refine st_q (v := .int .i64 ((q : Nat) : Int)) (x_move rfl) ?_
                      refine st_q (v := .int .i64 (((q + 1) : Nat) : Int)) (x_addN rfl rfl (by omega)) ?_
                      refine st_q (v := .int .i64 (((q + 1) : Nat) : Int)) (x_assign rfl) ?_
                      refine st_nil ?_
                      refine kn352 _ ((q + 1)) _ ⟨rfl, rfl, rfl, rfl, trivial⟩ ⟨hF416, ?_⟩ ?_
                      ·
                        try dsimp only
                        all_goals exact trivial
                      ·
                        (try dsimp only); omega
                ·
                  refine exit ?_
                  refine ke358 _ _ _ ?_
                  refine ke354 _ _ _ ?_
                  refine kb337 _ _ ?_
                  refine kn325 _ _ ?_
                  refine kn321 _ _ ?_
                  refine region ?_
                  refine st_q (v := .int .i64 ((p : Nat) : Int)) (x_move rfl) ?_
                  refine st_q (v := .int .i64 (((p + 1) : Nat) : Int)) (x_addN rfl rfl (by omega)) ?_
                  refine st_q (v := .int .i64 (((p + 1) : Nat) : Int)) (x_assign rfl) ?_
                  refine st_nil ?_
                  refine kn308 _ ((p + 1)) _ ⟨rfl, rfl, rfl, trivial⟩ ⟨hF345, ?_⟩ ?_
                  ·
                    try dsimp only
                    all_goals exact trivial
                  ·
                    (try dsimp only); omega
            ·
              refine exit ?_
              refine ke314 _ _ _ ?_
              refine ke310 _ _ _ ?_
              refine kb296 _ _ ?_
              refine kn285 _ _ ?_
              refine seqK fun Q452 kn453 kr454 ke455 => ?_
              refine region ?_
              refine st_q (v := .bool true) (x_assign rfl) ?_
              refine st_nil ?_
              refine kn453 _ _ ?_
              refine ret ?_
              refine leave1 (P := Try.prog) (fn := Try.f36) (t := 2) (v := .bool true) rfl rfl ?_
              exact ⟨rfl, hE304.below (fun _ h => h) hlo⟩

end Go.Proofs.Ytgfolockecjlnaa
