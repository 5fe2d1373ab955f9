import Derived.Test.YtgfolockecjlnaaLists0
namespace Go.Proofs.Ytgfolockecjlnaa
open Go.RowKit Go.Eng Go.OrdPure Go.HeapPure
theorem T.cf37 : CF Try.prog 37 := fun _ _ => by kernel_rfl
theorem T.cf38 : CF Try.prog 38 := fun _ _ => by kernel_rfl
theorem T.cf36 : CF Try.prog 36 := fun _ _ => by kernel_rfl

set_option maxHeartbeats 4000000 in
theorem refmerge38 (ls : List Ts) (vs : List S3) (vl : Value) (w0 : World) (hl : Src w0.heap vl vs.length 1 (flat enV vs)) (hvl : vs.length = ls.length) (hS : ∀ k, k < ls.length → (el vs k).2.1 = (el ls k).length ∧ Src w0.heap (sv (el vs k)) (el ls k).length 2 (flat enT (el ls k))) (ht : ls.flatten.length ≤ 4398046511104) : Calls Try.prog 38 #[vl] w0 fun e w' => ∃ v, e = .returned v ∧ Ext w0 w' ∧ Own w'.heap w0.heap.size 31 2 v (srt byc ls.flatten).length (flat enT (srt byc ls.flatten)) := by
  have hE0 : Below w0.heap.size w0 w0 := Below.refl _ _
  have hz0 := hE0.le
  obtain ⟨a, ca, rfl, hca, hca1⟩ := hl.form
  refine enter Try.func38 rfl 19 Try.ntmps38 rfl ?_
  refine seqK fun Q1 kn2 kr3 ke4 => ?_
  refine region ?_
  refine st_q (v := .slice none 0 0) (x_assign rfl) ?_
  refine st_nil ?_
  refine kn2 _ _ ?_
  refine seqK fun Q5 kn6 kr7 ke8 => ?_
  refine region ?_
  refine st_q (v := .slice none 0 0) (x_assign rfl) ?_
  refine st_nil ?_
  refine kn6 _ _ ?_
  refine seqK fun Q9 kn10 kr11 ke12 => ?_
  refine seqK fun Q13 kn14 kr15 ke16 => ?_
  refine region ?_
  refine st_q (v := .int .i64 ((0 : Nat) : Int)) (x_assign rfl) ?_
  refine st_nil ?_
  refine kn14 _ _ ?_
  refine blockK fun Q17 kn18 kr19 kx20 kb21 => ?_
  refine loopK (α := Nat × Value) (fun x => [(0, .slice a vs.length ca), (3, x.2), (4, .int .i64 ((x.1 : Nat) : Int))]) (fun x w22 => Below w0.heap.size w0 w22 ∧ x.1 ≤ ls.length ∧ Own w22.heap w0.heap.size 31 2 x.2 (ls.take x.1).flatten.length (flat enT (ls.take x.1).flatten)) (fun x => ls.length - x.1) (0, .slice none 0 0) ⟨rfl, rfl, rfl, trivial⟩ ?_ ?_
  ·
    refine ⟨hE0, ?_⟩
    try dsimp only
    exact ⟨Nat.zero_le _, Own.nil _ _ _ _⟩
  ·
    rintro τ23 ⟨i, v⟩ w24 ⟨hx25, ⟨hi, hO⟩⟩
    try dsimp only at hi hO
    have hz26 := hx25.le
    intro Q27 kn28 kr29 ke30
    obtain ⟨D, hDd⟩ : ∃ D, D = (ls.take i).flatten := ⟨_, rfl⟩
    rw [← hDd] at hO
    have hDl : D.length ≤ ls.flatten.length := by rw [hDd]; exact flat_take_le ls i
    obtain ⟨aD, cD, rfl, hcD, hcD1⟩ := hO.src.form
    refine seqK fun Q31 kn32 kr33 ke34 => ?_
    refine seqK fun Q35 kn36 kr37 ke38 => ?_
    refine region ?_
    refine st_q (v := .int .i64 ((i : Nat) : Int)) (x_move rfl) ?_
    refine st_q (v := .slice a vs.length ca) (x_move rfl) ?_
    refine st_q (v := .int .i64 ((vs.length : Nat) : Int)) (x_lenSl rfl Try.underlying63 rfl) ?_
    refine st_q (v := .bool (decide (i < vs.length))) (x_lssN rfl rfl) ?_
    refine st_nil ?_
    refine kn36 _ _ ?_
    refine cnd (p := i < vs.length) rfl (fun h39 => ?_) (fun h39 => ?_)
    ·
      refine skip ?_
      refine kn32 _ _ ?_
      refine seqK fun Q40 kn41 kr42 ke43 => ?_
      refine blockK fun Q44 kn45 kr46 kx47 kb48 => ?_
      refine region ?_
      refine st_q (v := .slice aD D.length cD) (x_move rfl) ?_
      obtain ⟨hSm, hSs⟩ := hS i (by omega)
      have hfl := el_flat_le (ls := ls) (k := i) (by omega)
      have hft : (ls.take (i + 1)).flatten.length ≤ ls.flatten.length := flat_take_le ls (i + 1)
      rw [flat_take_succ (by omega), List.length_append, ← hDd] at hft
      have hSv : Src w0.heap (.slice (el vs i).1 (el vs i).2.1 (el vs i).2.2) (el vs i).2.1 2 (flat enT (el ls i)) := by rw [hSm]; have h := hSs; unfold sv at h; rw [hSm] at h; exact h
      refine st_q (v := .slice a vs.length ca) (x_move rfl) ?_
      refine st_q (v := .int .i64 ((i : Nat) : Int)) (x_move rfl) ?_
      obtain ⟨b49, o50, ha51, hc52⟩ := hl.at (by omega)
      refine st_q (v := .pointer (some ⟨b49, o50 + i * 1, none⟩)) (x_index' T.sl63 rfl ha51 rfl (by omega)) ?_
      refine st_q (v := .slice ((el vs i).1) ((el vs i).2.1) ((el vs i).2.2)) (x_load1 T.na29 rfl ((hc52.below hx25).elem enV_len (i := i) (by omega))) ?_
      refine st_e (e_appendX T.sl29 rfl rfl hO (hSv.below hx25) (ones (by exact flat_ones)) (by omega) (by decide) (by omega) ?_)
      intro v53 w54 hO55 hG56 hN57 hW58
      have hE59 : Below w0.heap.size w0 w54 := grown_below hG56 hx25 (Nat.le_refl _) (fun b hb => (by have := (hO.lt hb).1; clear hb; omega))
      have hz60 := hE59.le
      have hs61 := hG56.size
      have hO62 := hO55.app
      obtain ⟨a63, c64, rfl, hm65, hm66⟩ := hO62.src.form
      refine st_q (v := .slice a63 ((D.length + (el vs i).2.1)) c64) (x_assign rfl) ?_
      refine st_nil ?_
      refine kn45 _ _ ?_
      refine kn41 _ _ ?_
      refine region ?_
      refine st_q (v := .int .i64 ((i : Nat) : Int)) (x_move rfl) ?_
      refine st_q (v := .int .i64 (((i + 1) : Nat) : Int)) (x_addN rfl rfl (by omega)) ?_
      refine st_q (v := .int .i64 (((i + 1) : Nat) : Int)) (x_assign rfl) ?_
      refine st_nil ?_
      refine kn28 _ ((i + 1), .slice a63 ((D.length + (el vs i).2.1)) c64) _ ⟨rfl, rfl, rfl, trivial⟩ ⟨hE59, ?_⟩ ?_
      ·
        try dsimp only
        have e : (ls.take (i + 1)).flatten = D ++ el ls i := by rw [flat_take_succ (by omega), hDd]
        exact ⟨by omega, by rw [e, List.length_append, ← hSm]; exact hO62⟩
      ·
        (try dsimp only); omega
    ·
      refine exit ?_
      refine ke34 _ _ _ ?_
      refine ke30 _ _ _ ?_
      refine kb21 _ _ ?_
      refine kn10 _ _ ?_
      refine seqK fun Q67 kn68 kr69 ke70 => ?_
      refine region ?_
      refine st_q (v := .slice aD D.length cD) (x_move rfl) ?_
      have hDe : D = ls.flatten := by rw [hDd, List.take_of_length_le (by omega)]
      refine st_c (t_call [.slice aD D.length cD] T.cf17 rfl rfl) (refsort17 D _ _ hO.src (by omega)) ?_
      rintro _ w71 ⟨v73, rfl, hx72, hO74⟩
      rw [hDe] at hO74
      refine ⟨_, rfl, ?_⟩
      have hF75 := hO.ext hx72
      have hE76 : Below w0.heap.size w0 w71 := hx72.e hx25 (Nat.le_refl _)
      have hz77 := hE76.le
      have hs78 := hx72.size
      have hO79 := hO74.weak (lo' := w0.heap.size) (by omega)
      refine st_q (v := v73) (x_assign rfl) ?_
      refine st_nil ?_
      refine kn68 _ _ ?_
      refine ret ?_
      refine leave1 (P := Try.prog) (fn := Try.f38) (t := 2) (v := v73) rfl rfl ?_
      rw [srt_length]
      exact ⟨_, rfl, hE76, hO79⟩

set_option maxHeartbeats 4000000 in
theorem ordermerges7 (ls : List Ts) (vs : List S3) (vl : Value) (w0 : World) (hl : Src w0.heap vl vs.length 1 (flat enV vs)) (hvl : vs.length = ls.length) (hS : ∀ k, k < ls.length → (el vs k).2.1 = (el ls k).length ∧ Src w0.heap (sv (el vs k)) (el ls k).length 2 (flat enT (el ls k))) (hn : ls.length + ls.flatten.length ≤ 1048576) : Calls Try.prog 7 #[vl] w0 fun e w' => e = .returned (.bool true) ∧ Ext w0 w' := by
  have hE0 : Below w0.heap.size w0 w0 := Below.refl _ _
  have hz0 := hE0.le
  obtain ⟨a, ca, rfl, hca, hca1⟩ := hl.form
  obtain ⟨Ss, hSd⟩ : ∃ Ss, Ss = sorts ls := ⟨_, rfl⟩
  obtain ⟨A, hA⟩ : ∃ A, A = srt byc Ss.flatten := ⟨_, rfl⟩
  have hAn : A.length = ls.flatten.length := by rw [hA, srt_length, hSd, sorts_flat]
  refine enter Try.func7 rfl 89 Try.ntmps7 rfl ?_
  refine seqK fun Q1 kn2 kr3 ke4 => ?_
  refine region ?_
  refine st_q (v := .bool false) (x_assign rfl) ?_
  refine st_nil ?_
  refine kn2 _ _ ?_
  refine seqK fun Q5 kn6 kr7 ke8 => ?_
  refine region ?_
  refine st_q (v := .slice none 0 0) (x_assign rfl) ?_
  refine st_q (v := .slice none 0 0) (x_assign rfl) ?_
  refine st_nil ?_
  refine kn6 _ _ ?_
  refine seqK fun Q9 kn10 kr11 ke12 => ?_
  refine seqK fun Q13 kn14 kr15 ke16 => ?_
  refine region ?_
  refine st_q (v := .int .i64 ((0 : Nat) : Int)) (x_assign rfl) ?_
  refine st_nil ?_
  refine kn14 _ _ ?_
  refine blockK fun Q17 kn18 kr19 kx20 kb21 => ?_
  refine loopK (α := Nat × (List S3) × (List S3) × Value × Value) (fun x => [(0, .slice a vs.length ca), (3, x.2.2.2.1), (4, x.2.2.2.2), (5, .int .i64 ((x.1 : Nat) : Int))]) (fun x w22 => Below w0.heap.size w0 w22 ∧ x.1 ≤ ls.length ∧ FamM w22.heap w0.heap.size Ss x.2.1 x.2.2.1 x.1 ∧ Own w22.heap w0.heap.size 29 1 x.2.2.2.1 x.1 (flat enV x.2.1) ∧ Own w22.heap w0.heap.size 29 1 x.2.2.2.2 x.1 (flat enV x.2.2.1) ∧ ∀ b, x.2.2.2.1.ownBlock = some b → x.2.2.2.2.ownBlock ≠ some b) (fun x => ls.length - x.1) (0, [], [], .slice none 0 0, .slice none 0 0) ⟨rfl, rfl, rfl, rfl, trivial⟩ ?_ ?_
  ·
    refine ⟨hE0, ?_⟩
    try dsimp only
    exact ⟨Nat.zero_le _, FamM.nil, Own.nil _ _ _ _, Own.nil _ _ _ _, fun b hb => by simp [Value.ownBlock] at hb⟩
  ·
    rintro τ23 ⟨i, Rs, Xs, vr, vx⟩ w24 ⟨hx25, ⟨hi, hF, hR, hX, hd⟩⟩
    try dsimp only at hi hF hR hX hd
    have hz26 := hx25.le
    intro Q27 kn28 kr29 ke30
    obtain ⟨aR, cR, rfl, hcR, hcR1⟩ := hR.src.form
    obtain ⟨aX, cX, rfl, hcX, hcX1⟩ := hX.src.form
    have hd2 : ∀ b, Value.ownBlock (.slice aR i cR) = some b → Value.ownBlock (.slice aX i cX) ≠ some b := hd
    refine seqK fun Q31 kn32 kr33 ke34 => ?_
    refine seqK fun Q35 kn36 kr37 ke38 => ?_
    refine region ?_
    refine st_q (v := .int .i64 ((i : Nat) : Int)) (x_move rfl) ?_
    refine st_q (v := .slice a vs.length ca) (x_move rfl) ?_
    refine st_q (v := .int .i64 ((vs.length : Nat) : Int)) (x_lenSl rfl Try.underlying63 rfl) ?_
    refine st_q (v := .bool (decide (i < vs.length))) (x_lssN rfl rfl) ?_
    refine st_nil ?_
    refine kn36 _ _ ?_
    refine cnd (p := i < vs.length) rfl (fun h39 => ?_) (fun h39 => ?_)
    ·
      refine skip ?_
      refine kn32 _ _ ?_
      refine seqK fun Q40 kn41 kr42 ke43 => ?_
      refine blockK fun Q44 kn45 kr46 kx47 kb48 => ?_
      refine seqK fun Q49 kn50 kr51 ke52 => ?_
      refine region ?_
      obtain ⟨hSm, hSs⟩ := hS i (by omega)
      have hSv : Src w0.heap (.slice (el vs i).1 (el vs i).2.1 (el vs i).2.2) (el ls i).length 2 (flat enT (el ls i)) := hSs
      have hsl : el Ss i = srt byc (el ls i) := by rw [hSd, el_sorts (by omega)]
      have hsn : (el Ss i).length = (el ls i).length := by rw [hsl, srt_length]
      have hfl := el_flat_le (ls := ls) (k := i) (by omega)
      refine st_q (v := .slice a vs.length ca) (x_move rfl) ?_
      refine st_q (v := .int .i64 ((i : Nat) : Int)) (x_move rfl) ?_
      obtain ⟨b53, o54, ha55, hc56⟩ := hl.at (by omega)
      refine st_q (v := .pointer (some ⟨b53, o54 + i * 1, none⟩)) (x_index' T.sl63 rfl ha55 rfl (by omega)) ?_
      refine st_q (v := .slice ((el vs i).1) ((el vs i).2.1) ((el vs i).2.2)) (x_load1 T.na29 rfl ((hc56.below hx25).elem enV_len (i := i) (by omega))) ?_
      refine st_c (t_call [.slice ((el vs i).1) ((el vs i).2.1) ((el vs i).2.2)] T.cf17 rfl rfl) (refsort17 (el ls i) _ _ (hSv.below hx25) (by omega)) ?_
      rintro _ w57 ⟨v59, rfl, hx58, hO60⟩
      rw [← hsl, ← hsn] at hO60
      refine ⟨_, rfl, ?_⟩
      have hF61 := hR.ext hx58
      have hF62 := hX.ext hx58
      have hF63 := hF.ext hx58
      have hE64 : Below w0.heap.size w0 w57 := hx58.e hx25 (Nat.le_refl _)
      have hz65 := hE64.le
      have hs66 := hx58.size
      have hO67 := hO60.weak (lo' := w0.heap.size) (by omega)
      obtain ⟨a68, c69, rfl, hm70, hm71⟩ := hO67.src.form
      refine st_q (v := .slice a68 ((el Ss i).length) c69) (x_assign rfl) ?_
      refine st_nil ?_
      refine kn50 _ _ ?_
      refine seqK fun Q72 kn73 kr74 ke75 => ?_
      refine region ?_
      refine st_q (v := .slice aR i cR) (x_move rfl) ?_
      refine st_q (v := .slice a68 ((el Ss i).length) c69) (x_move rfl) ?_
      refine st_e (e_buildSlice (cs := [.slice a68 ((el Ss i).length) c69]) (e := 29) (fun _ => by kernel_rfl) ?_)
      intro w76 hA77
      have hx78 := hA77.ext
      have hs79 := hA77.size
      have hB80 : Blk w76.heap w57.heap.size [.slice a68 ((el Ss i).length) c69] 29 := hA77.new
      have hF81 := hF61.ext hx78
      have hF82 := hF62.ext hx78
      have hF83 := hF63.ext hx78
      have hF84 := hO67.ext hx78
      have hE85 : Below w0.heap.size w0 w76 := hx78.e hE64 (Nat.le_refl _)
      have hz86 := hE85.le
      have hs87 := hx78.size
      refine st_e (e_appendX T.sl63 rfl rfl hF81 (hB80.src1 (k := 1) (m := 1) rfl (by omega)) (ones (by rfl)) (by omega) (by decide) (by omega) ?_)
      intro v88 w89 hO90 hG91 hN92 hW93
      have hF94 := hF82.grown hG91 (fun b hb e => hd b e hb)
      have hF95 := hF83.grownT hG91 hF81
      have hF96 := hF84.grownT hG91 hF81 (by decide)
      have hE97 : Below w0.heap.size w0 w89 := grown_below hG91 hE85 (Nat.le_refl _) (fun b hb => (by have := (hF81.lt hb).1; clear hb; omega))
      have hz98 := hE97.le
      have hs99 := hG91.size
      have hO100 := Own.snoc (enc := enV) (u := (a68, (el Ss i).length, c69)) hO90
      obtain ⟨a101, c102, rfl, hm103, hm104⟩ := hO100.src.form
      have hd2 := Where.dis hW93 hd (fun b hb => (hF82.lt hb).2)
      refine st_q (v := .slice a101 ((i + 1)) c102) (x_assign rfl) ?_
      refine st_nil ?_
      refine kn73 _ _ ?_
      refine region ?_
      refine st_q (v := .slice aX i cX) (x_move rfl) ?_
      refine st_q (v := .slice a68 ((el Ss i).length) c69) (x_move rfl) ?_
      refine st_c (t_call [.slice a68 ((el Ss i).length) c69] T.cf18 rfl rfl) (lend18 (el Ss i) _ _ hF96.src (by omega)) ?_
      rintro _ w105 ⟨la, cl, rfl, hx106, hcl, hO107, hcl1⟩
      refine ⟨_, rfl, ?_⟩
      have hF108 := hF94.ext hx106
      have hF109 := hF95.ext hx106
      have hF110 := hF96.ext hx106
      have hF111 := hO100.ext hx106
      have hE112 : Below w0.heap.size w0 w105 := hx106.e hE97 (Nat.le_refl _)
      have hz113 := hE112.le
      have hs114 := hx106.size
      have hO115 := hO107.weak (lo' := w0.heap.size) (by omega)
      refine st_e (e_buildSlice (cs := [.slice la ((el Ss i).length) cl]) (e := 29) (fun _ => by kernel_rfl) ?_)
      intro w116 hA117
      have hx118 := hA117.ext
      have hs119 := hA117.size
      have hB120 : Blk w116.heap w105.heap.size [.slice la ((el Ss i).length) cl] 29 := hA117.new
      have hF121 := hF108.ext hx118
      have hF122 := hF109.ext hx118
      have hF123 := hF110.ext hx118
      have hF124 := hF111.ext hx118
      have hF125 := hO115.ext hx118
      have hE126 : Below w0.heap.size w0 w116 := hx118.e hE112 (Nat.le_refl _)
      have hz127 := hE126.le
      have hs128 := hx118.size
      refine st_e (e_appendX T.sl63 rfl rfl hF121 (hB120.src1 (k := 1) (m := 1) rfl (by omega)) (ones (by rfl)) (by omega) (by decide) (by omega) ?_)
      intro v129 w130 hO131 hG132 hN133 hW134
      have hF135 := hF122.grownT hG132 hF121
      have hF136 := hF123.grownT hG132 hF121 (by decide)
      have hF137 := hF124.grown hG132 (fun b hb e => hd2 b hb e)
      have hF138 := hF125.grownT hG132 hF121 (by decide)
      have hE139 : Below w0.heap.size w0 w130 := grown_below hG132 hE126 (Nat.le_refl _) (fun b hb => (by have := (hF121.lt hb).1; clear hb; omega))
      have hz140 := hE139.le
      have hs141 := hG132.size
      have hO142 := Own.snoc (enc := enV) (u := (la, (el Ss i).length, cl)) hO131
      obtain ⟨a143, c144, rfl, hm145, hm146⟩ := hO142.src.form
      have hd3 := Where.dis hW134 (fun b hb hb2 => hd2 b hb2 hb) (fun b hb => (hF124.lt hb).2)
      refine st_q (v := .slice a143 ((i + 1)) c144) (x_assign rfl) ?_
      refine st_nil ?_
      refine kn45 _ _ ?_
      refine kn41 _ _ ?_
      refine region ?_
      refine st_q (v := .int .i64 ((i : Nat) : Int)) (x_move rfl) ?_
      refine st_q (v := .int .i64 (((i + 1) : Nat) : Int)) (x_addN rfl rfl (by omega)) ?_
      refine st_q (v := .int .i64 (((i + 1) : Nat) : Int)) (x_assign rfl) ?_
      refine st_nil ?_
      refine kn28 _ ((i + 1), (Rs ++ [(a68, (el Ss i).length, c69)]), (Xs ++ [(la, (el Ss i).length, cl)]), .slice a101 ((i + 1)) c102, .slice a143 ((i + 1)) c144) _ ⟨rfl, rfl, rfl, rfl, trivial⟩ ⟨hE139, ?_⟩ ?_
      ·
        try dsimp only
        exact ⟨by omega, hF135.snoc rfl hF136 rfl hcl hF138, hF137, hO142, fun b hb hb2 => hd3 b hb2 hb⟩
      ·
        (try dsimp only); omega
    ·
      refine exit ?_
      refine ke34 _ _ _ ?_
      refine ke30 _ _ _ ?_
      refine kb21 _ _ ?_
      refine kn10 _ _ ?_
      refine seqK fun Q147 kn148 kr149 ke150 => ?_
      refine region ?_
      refine st_q (v := .slice aX i cX) (x_move rfl) ?_
      refine st_c (t_call [.int .i64 (-3), .int .i64 (-3)] T.cf27 rfl rfl) (thing27 (-3) (-3) _) ?_
      rintro _ w151 ⟨rfl, hx152⟩
      refine ⟨_, rfl, ?_⟩
      have hF153 := hR.ext hx152
      have hF154 := hX.ext hx152
      have hF155 := hF.ext hx152
      have hE156 : Below w0.heap.size w0 w151 := hx152.e hx25 (Nat.le_refl _)
      have hz157 := hE156.le
      have hs158 := hx152.size
      refine st_e (e_buildSlice (cs := [.int .i64 ((-3)), .int .i64 ((-3))]) (e := 31) (fun _ => by kernel_rfl) ?_)
      intro w159 hA160
      have hx161 := hA160.ext
      have hs162 := hA160.size
      have hB163 : Blk w159.heap w151.heap.size [.int .i64 ((-3)), .int .i64 ((-3))] 31 := hA160.new
      have hF164 := hF153.ext hx161
      have hF165 := hF154.ext hx161
      have hF166 := hF155.ext hx161
      have hE167 : Below w0.heap.size w0 w159 := hx161.e hE156 (Nat.le_refl _)
      have hz168 := hE167.le
      have hs169 := hx161.size
      refine st_e (e_buildSlice (cs := [.slice ((some ⟨w151.heap.size, 0, none⟩)) 1 1]) (e := 29) (fun _ => by kernel_rfl) ?_)
      intro w170 hA171
      have hx172 := hA171.ext
      have hs173 := hA171.size
      have hB174 : Blk w170.heap w159.heap.size [.slice ((some ⟨w151.heap.size, 0, none⟩)) 1 1] 29 := hA171.new
      have hB175 := hB163.ext hx172
      have hF176 := hF164.ext hx172
      have hF177 := hF165.ext hx172
      have hF178 := hF166.ext hx172
      have hE179 : Below w0.heap.size w0 w170 := hx172.e hE167 (Nat.le_refl _)
      have hz180 := hE179.le
      have hs181 := hx172.size
      refine st_e (e_appendX T.sl63 rfl rfl hF177 (hB174.src1 (k := 1) (m := 1) rfl (by omega)) (ones (by rfl)) (by omega) (by decide) (by omega) ?_)
      intro v182 w183 hO184 hG185 hN186 hW187
      have hB188 := hB175.grown hG185 (fun e => by first | exact (hB175.neO hF177 (by decide)) e | exact hne e | (have := (hF177.lt e).1; clear e; omega))
      have hF189 := hF176.grown hG185 (fun b hb e => hd2 b hb e)
      have hF190 := hF178.grownT hG185 hF177
      have hE191 : Below w0.heap.size w0 w183 := grown_below hG185 hE179 (Nat.le_refl _) (fun b hb => (by have := (hF177.lt hb).1; clear hb; omega))
      have hz192 := hE191.le
      have hs193 := hG185.size
      have hO194 := Own.snoc (enc := enV) (u := ((some ⟨w151.heap.size, 0, none⟩), 1, 1)) hO184
      obtain ⟨a195, c196, rfl, hm197, hm198⟩ := hO194.src.form
      have hd3 := Where.dis hW187 (fun b hb hb2 => hd2 b hb2 hb) (fun b hb => (hF176.lt hb).2)
      refine st_q (v := .slice a195 ((i + 1)) c196) (x_assign rfl) ?_
      refine st_nil ?_
      refine kn148 _ _ ?_
      refine seqK fun Q199 kn200 kr201 ke202 => ?_
      refine region ?_
      refine st_q (v := .slice a195 ((i + 1)) c196) (x_move rfl) ?_
      refine st_q (v := .slice a vs.length ca) (x_move rfl) ?_
      refine st_q (v := .int .i64 ((vs.length : Nat) : Int)) (x_lenSl rfl Try.underlying63 rfl) ?_
      refine st_q (v := .slice a195 vs.length c196) (x_sliceHi T.sl63 rfl rfl (by omega)) ?_
      obtain ⟨u, hu⟩ : ∃ u : S3, u = ((some ⟨w151.heap.size, 0, none⟩), 1, 1) := ⟨_, rfl⟩
      have hu1 : u.2.1 = 1 := by rw [hu]
      have hXu : Own w183.heap w0.heap.size 29 1 (.slice a195 ((i + 1)) c196) (i + 1) (flat enV (Xs ++ [u])) := by rw [hu]; exact hO194
      have hil : i = ls.length := by omega
      have hRl := hF190.1
      have hXl := hF190.2.1
      obtain ⟨lo, hlo, hlo2⟩ : ∃ lo, lo = w183.heap.size ∧ w0.heap.size ≤ lo := ⟨_, rfl, by omega⟩
      have hFlt : FamLt lo Rs Xs i := by rw [hlo]; exact hF190.lt
      have hltR : ∀ b, Value.ownBlock (.slice aR i cR) = some b → b < lo := fun b hb => by rw [hlo]; exact (hF189.lt hb).2
      have hltX : ∀ b, Value.ownBlock (.slice a195 ((i + 1)) c196) = some b → b < lo := fun b hb => by rw [hlo]; exact (hXu.lt hb).2
      have hlast : (el (Xs ++ [u]) vs.length).2.1 = 1 := by rw [show vs.length = Xs.length by omega, el_snoc]; exact hu1
      have htk : ((Xs ++ [u])).take vs.length = Xs := by rw [show vs.length = Xs.length by omega, List.take_left]
      have hxl2 : ((Xs ++ [u])).length = i + 1 := by rw [List.length_append, List.length_singleton]; omega
      have hSsl : Ss.length = ls.length := by rw [hSd, sorts_len]
      have hSsf : Ss.flatten.length = ls.flatten.length := by rw [hSd, sorts_flat]
      have hSsu : Up Ss := by rw [hSd]; exact sorts_up ls
      have ht203 := (hXu.take enV_len (j := vs.length) (by omega) (by omega)).src
      rw [htk] at ht203
      refine st_c (t_call [.func (.func 20) #[] #[], .slice a195 vs.length c196] T.cf37 rfl rfl) (merge37 Ss Xs _ _ (by rw [show Xs.length = vs.length by omega]; exact ht203) (by omega) (fun k hk => hF190.lent (by omega)) hSsu (by omega) (by omega)) ?_
      rintro _ w204 ⟨v206, rfl, hx205, hO207⟩
      rw [← hA] at hO207
      refine ⟨_, rfl, ?_⟩
      have hdx208 : ∀ k, Value.ownBlock v206 = some k → w183.heap.size ≤ k ∧ k < w204.heap.size := fun k e => hO207.lt e
      have hB209 := hB188.ext hx205
      have hF210 := hF189.ext hx205
      have hF211 := hF190.ext hx205
      have hF212 := hXu.ext hx205
      have hE213 : Below w0.heap.size w0 w204 := hx205.e hE191 (Nat.le_refl _)
      have hz214 := hE213.le
      have hs215 := hx205.size
      have hO216 := hO207.weak (lo' := lo) (by omega)
      obtain ⟨a217, c218, rfl, hm219, hm220⟩ := hO216.src.form
      have hcz221 : w0.heap.size ≤ lo := by omega
      have hcz222 : lo ≤ w183.heap.size := by omega
      have hcz223 : w183.heap.size ≤ w204.heap.size := by omega
      clear hz26 hz157 hs158 hs162 hz168 hs169 hs173 hz180 hs181 hz192 hs193 hz214 hs215
      refine st_q (v := .slice a217 A.length c218) (x_assign rfl) ?_
      refine st_nil ?_
      refine kn200 _ _ ?_
      refine seqK fun Q224 kn225 kr226 ke227 => ?_
      refine region ?_
      refine st_q (v := .slice a195 ((i + 1)) c196) (x_move rfl) ?_
      refine st_q (v := .slice a vs.length ca) (x_move rfl) ?_
      refine st_q (v := .int .i64 ((vs.length : Nat) : Int)) (x_lenSl rfl Try.underlying63 rfl) ?_
      refine st_q (v := .slice a195 vs.length c196) (x_sliceHi T.sl63 rfl rfl (by omega)) ?_
      have ht228 := (hF212.take enV_len (j := vs.length) (by omega) (by omega)).src
      rw [htk] at ht228
      refine st_c (t_call [.func (.func 20) #[] #[], .slice a195 vs.length c196] T.cf37 rfl rfl) (merge37 Ss Xs _ _ (by rw [show Xs.length = vs.length by omega]; exact ht228) (by omega) (fun k hk => hF211.lent (by omega)) hSsu (by omega) (by omega)) ?_
      rintro _ w229 ⟨v231, rfl, hx230, hO232⟩
      rw [← hA] at hO232
      refine ⟨_, rfl, ?_⟩
      have hdx233 : ∀ k, Value.ownBlock v231 = some k → w204.heap.size ≤ k ∧ k < w229.heap.size := fun k e => hO232.lt e
      have hB234 := hB209.ext hx230
      have hF235 := hF210.ext hx230
      have hF236 := hF211.ext hx230
      have hF237 := hF212.ext hx230
      have hF238 := hO216.ext hx230
      have hE239 : Below w0.heap.size w0 w229 := hx230.e hE213 (Nat.le_refl _)
      have hz240 := hE239.le
      have hs241 := hx230.size
      have hO242 := hO232.weak (lo' := lo) (by omega)
      obtain ⟨a243, c244, rfl, hm245, hm246⟩ := hO242.src.form
      have hcz247 : w0.heap.size ≤ lo := by omega
      have hcz248 : lo ≤ w183.heap.size := by omega
      have hcz249 : w183.heap.size ≤ w204.heap.size := by omega
      have hcz250 : w204.heap.size ≤ w229.heap.size := by omega
      clear hcz221 hcz222 hcz223 hz240 hs241
      refine st_q (v := .slice a243 A.length c244) (x_assign rfl) ?_
      refine st_nil ?_
      refine kn225 _ _ ?_
      refine seqK fun Q251 kn252 kr253 ke254 => ?_
      refine seqK fun Q255 kn256 kr257 ke258 => ?_
      refine region ?_
      refine st_q (v := .slice a217 A.length c218) (x_move rfl) ?_
      refine st_q (v := .slice aR i cR) (x_move rfl) ?_
      refine st_c (t_call [.slice aR i cR] T.cf38 rfl rfl) (refmerge38 Ss Rs _ _ (by rw [hRl]; exact hF235.src) (by omega) (fun k hk => hF236.sorted (by omega)) (by omega)) ?_
      rintro _ w259 ⟨v261, rfl, hx260, hO262⟩
      rw [← hA] at hO262
      refine ⟨_, rfl, ?_⟩
      have hB263 := hB234.ext hx260
      have hF264 := hF235.ext hx260
      have hF265 := hF236.ext hx260
      have hF266 := hF237.ext hx260
      have hF267 := hF238.ext hx260
      have hF268 := hO242.ext hx260
      have hE269 : Below w0.heap.size w0 w259 := hx260.e hE239 (Nat.le_refl _)
      have hz270 := hE269.le
      have hs271 := hx260.size
      have hO272 := hO262.weak (lo' := lo) (by omega)
      obtain ⟨a273, c274, rfl, hm275, hm276⟩ := hO272.src.form
      have hcz277 : w0.heap.size ≤ lo := by omega
      have hcz278 : lo ≤ w183.heap.size := by omega
      have hcz279 : w183.heap.size ≤ w204.heap.size := by omega
      have hcz280 : w204.heap.size ≤ w229.heap.size := by omega
      have hcz281 : w229.heap.size ≤ w259.heap.size := by omega
      clear hcz247 hcz248 hcz249 hcz250 hz270 hs271
      refine st_c (t_call [.slice a217 A.length c218, .slice a273 A.length c274] T.cf34 rfl rfl) (same A A _ _ _ hF267.src hO272.src) ?_
      rintro _ w282 ⟨rfl, hx283⟩
      refine ⟨_, rfl, ?_⟩
      have hB284 := hB263.ext hx283
      have hF285 := hF264.ext hx283
      have hF286 := hF265.ext hx283
      have hF287 := hF266.ext hx283
      have hF288 := hF267.ext hx283
      have hF289 := hF268.ext hx283
      have hF290 := hO272.ext hx283
      have hE291 : Below w0.heap.size w0 w282 := hx283.e hE269 (Nat.le_refl _)
      have hz292 := hE291.le
      have hs293 := hx283.size
      refine st_q (v := .bool (decide (¬ (A = A)))) (x_notP rfl) ?_
      refine st_if (p := ¬ (A = A)) (x_move rfl) (fun h294 => ?_) (fun h294 => ?_)
      ·
        exact absurd h294 (not_not_intro rfl)
      ·
        clear h294
        refine st_gq 5 50 rfl rfl (by decide) ?_
        refine st_q (v := .slice a243 A.length c244) (x_move rfl) ?_
        refine st_gq 5 50 rfl rfl (by decide) ?_
        refine st_q (v := .slice a217 A.length c218) (x_move rfl) ?_
        refine st_gq 5 50 rfl rfl (by decide) ?_
        refine st_c (t_call [.slice a243 A.length c244, .slice a217 A.length c218] T.cf34 rfl rfl) (same A A _ _ _ hF289.src hF288.src) ?_
        rintro _ w295 ⟨rfl, hx296⟩
        refine ⟨_, rfl, ?_⟩
        have hB297 := hB284.ext hx296
        have hF298 := hF285.ext hx296
        have hF299 := hF286.ext hx296
        have hF300 := hF287.ext hx296
        have hF301 := hF288.ext hx296
        have hF302 := hF289.ext hx296
        have hF303 := hF290.ext hx296
        have hE304 : Below w0.heap.size w0 w295 := hx296.e hE291 (Nat.le_refl _)
        have hz305 := hE304.le
        have hs306 := hx296.size
        refine st_gq 5 50 rfl rfl (by decide) ?_
        refine st_q (v := .bool (decide (¬ (A = A)))) (x_notP rfl) ?_
        refine st_q (v := .bool (decide (¬ (A = A)))) (x_pickF rfl rfl) ?_
        refine st_if (p := ¬ (A = A)) (x_move rfl) (fun h307 => ?_) (fun h307 => ?_)
        ·
          exact absurd h307 (not_not_intro rfl)
        ·
          clear h307
          refine st_gq 11 56 rfl rfl (by decide) ?_
          refine st_q (v := .slice a195 ((i + 1)) c196) (x_move rfl) ?_
          refine st_gq 11 56 rfl rfl (by decide) ?_
          refine st_q (v := .slice a vs.length ca) (x_move rfl) ?_
          refine st_gq 11 56 rfl rfl (by decide) ?_
          refine st_q (v := .int .i64 ((vs.length : Nat) : Int)) (x_lenSl rfl Try.underlying63 rfl) ?_
          refine st_gq 11 56 rfl rfl (by decide) ?_
          obtain ⟨b308, o309, ha310, hc311⟩ := hF300.src.at (by omega)
          refine st_q (v := .pointer (some ⟨b308, o309 + vs.length * 1, none⟩)) (x_index' T.sl63 rfl ha310 rfl (by omega)) ?_
          refine st_gq 11 56 rfl rfl (by decide) ?_
          refine st_q (v := .slice ((el (Xs ++ [u]) vs.length).1) ((el (Xs ++ [u]) vs.length).2.1) ((el (Xs ++ [u]) vs.length).2.2)) (x_load1 T.na29 rfl (hc311.elem enV_len (i := vs.length) (by omega))) ?_
          refine st_gq 11 56 rfl rfl (by decide) ?_
          refine st_q (v := .int .i64 (((el (Xs ++ [u]) vs.length).2.1 : Nat) : Int)) (x_lenSl rfl Try.underlying29 rfl) ?_
          refine st_gq 11 56 rfl rfl (by decide) ?_
          refine st_q (v := .bool (decide (((el (Xs ++ [u]) vs.length).2.1) ≠ 1))) (x_neqN rfl rfl) ?_
          refine st_q (v := .bool (decide (((el (Xs ++ [u]) vs.length).2.1) ≠ 1))) (x_pickF rfl rfl) ?_
          refine st_if (p := ((el (Xs ++ [u]) vs.length).2.1) ≠ 1) (x_move rfl) (fun h312 => ?_) (fun h312 => ?_)
          ·
            exact absurd h312 (not_not_intro hlast)
          ·
            clear h312
            refine st_gq 20 65 rfl rfl (by decide) ?_
            refine st_q (v := .slice a217 A.length c218) (x_move rfl) ?_
            refine st_gq 20 65 rfl rfl (by decide) ?_
            refine st_q (v := .slice a243 A.length c244) (x_move rfl) ?_
            refine st_gq 20 65 rfl rfl (by decide) ?_
            refine st_e (e_buildSlice (cs := [.slice a217 A.length c218, .slice a243 A.length c244]) (e := 29) (fun _ => by kernel_rfl) ?_)
            intro w313 hA314
            have hx315 := hA314.ext
            have hs316 := hA314.size
            have hB317 : Blk w313.heap w295.heap.size [.slice a217 A.length c218, .slice a243 A.length c244] 29 := hA314.new
            have hB318 := hB297.ext hx315
            have hF319 := hF298.ext hx315
            have hF320 := hF299.ext hx315
            have hF321 := hF300.ext hx315
            have hF322 := hF301.ext hx315
            have hF323 := hF302.ext hx315
            have hF324 := hF303.ext hx315
            have hF325 := hc311.ext hx315
            have hE326 : Below w0.heap.size w0 w313 := hx315.e hE304 (Nat.le_refl _)
            have hz327 := hE326.le
            have hs328 := hx315.size
            refine st_gq 20 65 rfl rfl (by decide) ?_
            refine st_c (t_call [.slice ((some ⟨w295.heap.size, 0, none⟩)) 2 2] T.cf36 rfl rfl) (apart_2 lo (v0 := (a217, A.length, c218)) (v1 := (a243, A.length, c244)) A A w295.heap.size _ (by omega) hB317 hF322 hF323 (by show A.length ≤ _; omega) (by show A.length ≤ _; omega) hdx208 hdx233 (by constructor <;> omega)) ?_
            rintro _ w329 ⟨rfl, hb330⟩
            refine ⟨_, rfl, ?_⟩
            have hF331 := hF319.belowLo hb330 hltR
            have hF332 := hF320.below hFlt hb330
            have hF333 := hF321.belowLo hb330 hltX
            have hE334 : Below w0.heap.size w0 w329 := hE326.trans (hb330.mono (by omega))
            have hz335 := hE334.le
            have hs336 := hb330.size
            have hcz337 : w0.heap.size ≤ lo := by omega
            have hcz338 : lo ≤ w329.heap.size := by omega
            clear hm198 hm197 hm220 hm219 hm246 hm245 hm276 hm275 hcz277 hcz278 hcz279 hcz280 hcz281 hz292 hs293 hz305 hs306 hs316 hz327 hs328 hz335 hs336
            refine st_gq 20 65 rfl rfl (by decide) ?_
            refine st_q (v := .bool false) (x_notB (b := true) rfl) ?_
            refine st_q (v := .bool false) (x_pickF rfl rfl) ?_
            refine st_nil ?_
            refine kn256 _ _ ?_
            refine cndF rfl ?_
            refine skip ?_
            refine kn252 _ _ ?_
            refine seqK fun Q339 kn340 kr341 ke342 => ?_
            refine seqK fun Q343 kn344 kr345 ke346 => ?_
            refine region ?_
            refine st_q (v := .int .i64 ((0 : Nat) : Int)) (x_assign rfl) ?_
            refine st_nil ?_
            refine kn344 _ _ ?_
            refine blockK fun Q347 kn348 kr349 kx350 kb351 => ?_
            refine loopK (α := Nat) (fun x => [(0, .slice a vs.length ca), (3, .slice aR i cR), (4, .slice a195 ((i + 1)) c196), (9, .int .i64 ((x : Nat) : Int))]) (fun x w352 => Ext w329 w352 ∧ True) (fun x => vs.length - x) (0) ⟨rfl, rfl, rfl, rfl, trivial⟩ ?_ ?_
            ·
              refine ⟨Below.refl _ _, ?_⟩
              try dsimp only
              all_goals exact trivial
            ·
              rintro τ353 q w354 ⟨hx355, _⟩
              have hF356 := hF331.ext hx355
              have hF357 := hF332.ext hx355
              have hF358 := hF333.ext hx355
              have hE359 : Below w0.heap.size w0 w354 := hx355.e hE334 (Nat.le_refl _)
              have hz360 := hE359.le
              have hs361 := hx355.size
              intro Q362 kn363 kr364 ke365
              refine seqK fun Q366 kn367 kr368 ke369 => ?_
              refine seqK fun Q370 kn371 kr372 ke373 => ?_
              refine region ?_
              refine st_q (v := .int .i64 ((q : Nat) : Int)) (x_move rfl) ?_
              refine st_q (v := .slice a vs.length ca) (x_move rfl) ?_
              refine st_q (v := .int .i64 ((vs.length : Nat) : Int)) (x_lenSl rfl Try.underlying63 rfl) ?_
              refine st_q (v := .bool (decide (q < vs.length))) (x_lssN rfl rfl) ?_
              refine st_nil ?_
              refine kn371 _ _ ?_
              refine cnd (p := q < vs.length) rfl (fun h374 => ?_) (fun h374 => ?_)
              ·
                refine skip ?_
                refine kn367 _ _ ?_
                refine seqK fun Q375 kn376 kr377 ke378 => ?_
                refine blockK fun Q379 kn380 kr381 kx382 kb383 => ?_
                refine seqK fun Q384 kn385 kr386 ke387 => ?_
                refine regionD1 [3, 7] [0, 1, 2, 3, 4, 5, 6, 7, 9] (.one 0 (.one 1 (.one 2 (.one 3 (.one 4 (.one 5 (.one 6 (.one 7 (.one 8 (.one 9 .done)))))))))) (by kernel_rfl) (by kernel_rfl) ?_
                intro w388 hx389 hs390
                have hF391 := hF356.ext hx389
                have hF392 := hF357.ext hx389
                have hF393 := hF358.ext hx389
                have hF394 := hx389.e hx355 (Nat.le_refl _)
                have hE395 : Below w0.heap.size w0 w388 := hx389.e hE359 (Nat.le_refl _)
                have hz396 := hE395.le
                have hs397 := hx389.size
                have hS398 : Ext w388 w388 := Below.refl _ _
                obtain ⟨hr1, hr2, hx1, hx2, hx3⟩ := hF392.2.2 q (by omega)
                have hxe : enV (el (Xs ++ [u]) q) = [.slice (el Xs q).1 (el Ss q).length (el Xs q).2.2] := by rw [el_append_left (by omega), enV, hx1]
                have hre : enV (el Rs q) = [.slice (el Rs q).1 (el Ss q).length (el Rs q).2.2] := by rw [enV, hr1]
                have hfl := el_flat_le (ls := Ss) (k := q) (by omega)
                obtain ⟨b399, o400, ha401, hc402⟩ := hF393.src.at (by omega)
                have hc403 : Cells w388.heap b399 (o400 + q * 1) [.slice (el Xs q).1 (el Ss q).length (el Xs q).2.2] := by have h := hc402.elem enV_len (i := q) (by omega); rw [hxe] at h; exact h
                obtain ⟨b404, o405, ha406, hc407⟩ := hF391.src.at (by omega)
                have hc408 : Cells w388.heap b404 (o405 + q * 1) [.slice (el Rs q).1 (el Ss q).length (el Rs q).2.2] := by have h := hc407.elem enV_len (i := q) (by omega); rw [hre] at h; exact h
                have hr2b : Own w388.heap w0.heap.size 31 2 (.slice (el Rs q).1 (el Ss q).length (el Rs q).2.2) (el Ss q).length (flat enT (el Ss q)) := by have h := hr2; unfold sv at h; rw [hr1] at h; exact h
                refine d_q (v := .slice a195 ((i + 1)) c196) rfl rfl (fun _ => x_move rfl) ?_
                refine d_q (v := .int .i64 ((q : Nat) : Int)) rfl rfl (fun _ => x_move rfl) ?_
                refine d_q (v := .pointer (some ⟨b399, o400 + q * 1, none⟩)) rfl rfl (fun _ => x_index' T.sl63 rfl ha401 rfl (by omega)) ?_
                refine d_l (v := .slice ((el Xs q).1) ((el Ss q).length) ((el Xs q).2.2)) rfl rfl rfl (fun v410 hw409 => x_load1 T.na29 rfl ((hc403).ext hw409)) ?_
                refine d_q (v := .slice aR i cR) rfl rfl (fun _ => x_move rfl) ?_
                refine d_q (v := .int .i64 ((q : Nat) : Int)) rfl rfl (fun _ => x_move rfl) ?_
                refine d_q (v := .pointer (some ⟨b404, o405 + q * 1, none⟩)) rfl rfl (fun _ => x_index' T.sl63 rfl ha406 rfl (by omega)) ?_
                refine d_l (v := .slice ((el Rs q).1) ((el Ss q).length) ((el Rs q).2.2)) rfl rfl rfl (fun v412 hw411 => x_load1 T.na29 rfl ((hc408).ext hw411)) ?_
                refine d_e (by decide) (d_c' rfl rfl (t_call [.slice ((el Xs q).1) ((el Ss q).length) ((el Xs q).2.2), .slice ((el Rs q).1) ((el Ss q).length) ((el Rs q).2.2)] T.cf22 rfl rfl) (kept22 (el Ss q) _ _ _ _ hx3.src hr2b.src (by omega)) ?_)
                rintro _ w413 ⟨rfl, hx414⟩
                refine ⟨_, rfl, ?_⟩
                have hF415 := hF391.ext hx414
                have hF416 := hF392.ext hx414
                have hF417 := hF393.ext hx414
                have hF418 := hx414.e hF394 (Nat.le_refl _)
                have hF419 := hc403.ext hx414
                have hF420 := hc408.ext hx414
                have hF421 := hr2b.ext hx414
                have hF422 := hx3.ext hx414
                have hE423 : Below w0.heap.size w0 w413 := hx414.e hE395 (Nat.le_refl _)
                have hz424 := hE423.le
                have hs425 := hx414.size
                have hS426 := hS398.trans (hx414.mono hS398.size)
                refine ⟨fun _ => hS426, ?_⟩
                refine d_q (v := .bool false) rfl rfl (fun _ => x_notB (b := true) rfl) ?_
                refine d_done ?_
                refine kn385 _ _ ?_
                refine cndF rfl ?_
                refine skip ?_
                refine kn380 _ _ ?_
                refine kn376 _ _ ?_
                refine region ?_
                refine st_q (v := .int .i64 ((q : Nat) : Int)) (x_move rfl) ?_
                refine st_q (v := .int .i64 (((q + 1) : Nat) : Int)) (x_addN rfl rfl (by omega)) ?_
                refine st_q (v := .int .i64 (((q + 1) : Nat) : Int)) (x_assign rfl) ?_
                refine st_nil ?_
                refine kn363 _ ((q + 1)) _ ⟨rfl, rfl, rfl, rfl, trivial⟩ ⟨hF418, ?_⟩ ?_
                ·
                  try dsimp only
                  all_goals exact trivial
                ·
                  (try dsimp only); omega
              ·
                refine exit ?_
                refine ke369 _ _ _ ?_
                refine ke365 _ _ _ ?_
                refine kb351 _ _ ?_
                refine kn340 _ _ ?_
                refine seqK fun Q427 kn428 kr429 ke430 => ?_
                refine region ?_
                refine st_c (t_call [] T.cf16 rfl rfl) (works16 _) ?_
                rintro _ w431 ⟨rfl, hx432⟩
                refine ⟨_, rfl, ?_⟩
                have hF433 := hF356.ext hx432
                have hF434 := hF357.ext hx432
                have hF435 := hF358.ext hx432
                have hF436 := hx432.e hx355 (Nat.le_refl _)
                have hE437 : Below w0.heap.size w0 w431 := hx432.e hE359 (Nat.le_refl _)
                have hz438 := hE437.le
                have hs439 := hx432.size
                refine st_q (v := .bool true) (x_assign rfl) ?_
                refine st_nil ?_
                refine kn428 _ _ ?_
                refine ret ?_
                refine leave1 (P := Try.prog) (fn := Try.f7) (t := 2) (v := .bool true) rfl rfl ?_
                exact ⟨rfl, hE437⟩

end Go.Proofs.Ytgfolockecjlnaa
