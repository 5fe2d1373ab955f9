import Derived.Test.YtgfolockecjlnaaPairs2
namespace Go.Proofs.Ytgfolockecjlnaa
open Go.RowKit Go.Eng Go.OrdPure Go.HeapPure
theorem T.cf23 : CF Try.prog 23 := fun _ _ => by kernel_rfl
theorem T.sl42 : SL Try.prog 42 40 1 8 (.pointer none) := sl_mk Try.underlying42 (by kernel_rfl) rfl (by decide)
theorem T.na40 : NA Try.prog 40 := fun _ => by kernel_rfl
theorem T.sl39 : SL Try.prog 39 48 4 32 (.agg #[.int .i64 ((0 : Nat) : Int), .int .i64 ((0 : Nat) : Int), .int .i64 ((0 : Nat) : Int), .int .i64 ((0 : Nat) : Int)]) := sl_mk Try.underlying39 (by kernel_rfl) rfl (by decide)
theorem T.fa48_1 : FA Try.prog 48 1 1 := fun _ _ => by kernel_rfl
theorem T.sl46 : SL Try.prog 46 43 1 8 (.pointer none) := sl_mk Try.underlying46 (by kernel_rfl) rfl (by decide)
theorem T.na43 : NA Try.prog 43 := fun _ => by kernel_rfl
theorem T.ag48 : AG Try.prog 48 4 := fun _ => ⟨by kernel_rfl, by kernel_rfl⟩
theorem T.cf24 : CF Try.prog 24 := fun _ _ => by kernel_rfl

set_option maxHeartbeats 4000000 in
theorem orderheaps5 (sc : List O4) (vl : Value) (w0 : World) (hl : Src w0.heap vl sc.length 4 (flat enO sc)) (hn : sc.length ≤ 4398046510976) : Calls Try.prog 5 #[vl] w0 fun e w' => e = .returned (.bool true) ∧ Ext w0 w' := by
  have hE0 : Below w0.heap.size w0 w0 := Below.refl _ _
  have hz0 := hE0.le
  obtain ⟨a, ca, rfl, hca, hca1⟩ := hl.form
  refine enter Try.func5 rfl 168 Try.ntmps5 rfl ?_
  refine seqK fun Q1 kn2 kr3 ke4 => ?_
  refine region ?_
  refine st_q (v := .bool false) (x_assign rfl) ?_
  refine st_nil ?_
  refine kn2 _ _ ?_
  refine seqK fun Q5 kn6 kr7 ke8 => ?_
  refine region ?_
  refine st_c (t_call [.func (.func 20) #[] #[]] T.cf23 rfl rfl) (new23 20 (.func (.func 20) #[] #[]) told20 _) ?_
  rintro _ w9 ⟨b0, rfl, hx10, hN0, hbn0⟩
  refine ⟨_, rfl, ?_⟩
  have hE11 : Below w0.heap.size w0 w9 := hx10.e hE0 (Nat.le_refl _)
  have hz12 := hE11.le
  have hs13 := hx10.size
  have hNw0 := HeapR.weak (lo' := w0.heap.size) hN0 (by omega)
  have hNl0 := hNw0.blk.lt
  refine st_c (t_call [.func (.func 20) #[] #[]] T.cf23 rfl rfl) (new23 20 (.func (.func 20) #[] #[]) told20 _) ?_
  rintro _ w14 ⟨b1, rfl, hx15, hN1, hbn1⟩
  refine ⟨_, rfl, ?_⟩
  have hF16 := hNw0.ext hx15
  have hE17 : Below w0.heap.size w0 w14 := hx15.e hE11 (Nat.le_refl _)
  have hz18 := hE17.le
  have hs19 := hx15.size
  have hNw1 := HeapR.weak (lo' := w0.heap.size) hN1 (by omega)
  have hNl1 := hNw1.blk.lt
  refine st_e (e_buildSlice (cs := [.pointer (some ⟨b0, 0, none⟩), .pointer (some ⟨b1, 0, none⟩)]) (e := 40) (fun _ => by kernel_rfl) ?_)
  intro w20 hA21
  have hx22 := hA21.ext
  have hs23 := hA21.size
  have hB24 : Blk w20.heap w14.heap.size [.pointer (some ⟨b0, 0, none⟩), .pointer (some ⟨b1, 0, none⟩)] 40 := hA21.new
  have hF25 := hF16.ext hx22
  have hF26 := hNw1.ext hx22
  have hE27 : Below w0.heap.size w0 w20 := hx22.e hE17 (Nat.le_refl _)
  have hz28 := hE27.le
  have hs29 := hx22.size
  refine st_q (v := .slice ((some ⟨w14.heap.size, 0, none⟩)) 2 2) (x_assign rfl) ?_
  refine st_nil ?_
  refine kn6 _ _ ?_
  refine seqK fun Q30 kn31 kr32 ke33 => ?_
  refine region ?_
  refine st_q (v := .agg #[.slice none 0 0]) (x_build (fun _ => by kernel_rfl)) ?_
  refine st_e (e_box (v := .agg #[.slice none 0 0]) rfl ?_)
  intro w34 hA35
  have hx36 := hA35.ext
  have hs37 := hA35.size
  have hB38 : Blk w34.heap w20.heap.size [.slice none 0 0] 45 := hA35.new
  have hB39 := hB24.ext hx36
  have hF40 := hF25.ext hx36
  have hF41 := hF26.ext hx36
  have hE42 : Below w0.heap.size w0 w34 := hx36.e hE27 (Nat.le_refl _)
  have hz43 := hE42.le
  have hs44 := hx36.size
  refine st_q (v := .agg #[.slice none 0 0]) (x_build (fun _ => by kernel_rfl)) ?_
  refine st_e (e_box (v := .agg #[.slice none 0 0]) rfl ?_)
  intro w45 hA46
  have hx47 := hA46.ext
  have hs48 := hA46.size
  have hB49 : Blk w45.heap w34.heap.size [.slice none 0 0] 45 := hA46.new
  have hB50 := hB39.ext hx47
  have hB51 := hB38.ext hx47
  have hF52 := hF40.ext hx47
  have hF53 := hF41.ext hx47
  have hE54 : Below w0.heap.size w0 w45 := hx47.e hE42 (Nat.le_refl _)
  have hz55 := hE54.le
  have hs56 := hx47.size
  refine st_e (e_buildSlice (cs := [.pointer (some ⟨w20.heap.size, 0, none⟩), .pointer (some ⟨w34.heap.size, 0, none⟩)]) (e := 43) (fun _ => by kernel_rfl) ?_)
  intro w57 hA58
  have hx59 := hA58.ext
  have hs60 := hA58.size
  have hB61 : Blk w57.heap w45.heap.size [.pointer (some ⟨w20.heap.size, 0, none⟩), .pointer (some ⟨w34.heap.size, 0, none⟩)] 43 := hA58.new
  have hB62 := hB50.ext hx59
  have hB63 := hB51.ext hx59
  have hB64 := hB49.ext hx59
  have hF65 := hF52.ext hx59
  have hF66 := hF53.ext hx59
  have hE67 : Below w0.heap.size w0 w57 := hx59.e hE54 (Nat.le_refl _)
  have hz68 := hE67.le
  have hs69 := hx59.size
  refine st_q (v := .slice ((some ⟨w45.heap.size, 0, none⟩)) 2 2) (x_assign rfl) ?_
  refine st_nil ?_
  refine kn31 _ _ ?_
  refine seqK fun Q70 kn71 kr72 ke73 => ?_
  refine seqK fun Q74 kn75 kr76 ke77 => ?_
  refine region ?_
  refine st_q (v := .slice ((some ⟨w14.heap.size, 0, none⟩)) 2 2) (x_move rfl) ?_
  refine st_q (v := .pointer (some ⟨w14.heap.size, 0 + 0 * 1, none⟩)) (x_index T.sl42 rfl rfl (by omega)) ?_
  refine st_q (v := .pointer (some ⟨b0, 0, none⟩)) (x_load1 T.na40 rfl (hB62.one 0 rfl)) ?_
  refine st_q (v := .bool false) (x_eqlPnil (p := some ⟨b0, 0, none⟩) Try.underlying40 rfl rfl) ?_
  refine st_q (v := .bool false) (x_move rfl) ?_
  refine st_gq 4 28 rfl rfl (by decide) ?_
  refine st_q (v := .slice ((some ⟨w14.heap.size, 0, none⟩)) 2 2) (x_move rfl) ?_
  refine st_gq 4 28 rfl rfl (by decide) ?_
  refine st_q (v := .pointer (some ⟨w14.heap.size, 0 + 1 * 1, none⟩)) (x_index T.sl42 rfl rfl (by omega)) ?_
  refine st_gq 4 28 rfl rfl (by decide) ?_
  refine st_q (v := .pointer (some ⟨b1, 0, none⟩)) (x_load1 T.na40 rfl (hB62.one 1 rfl)) ?_
  refine st_gq 4 28 rfl rfl (by decide) ?_
  refine st_q (v := .bool false) (x_eqlPnil (p := some ⟨b1, 0, none⟩) Try.underlying40 rfl rfl) ?_
  refine st_q (v := .bool false) (x_pickF rfl rfl) ?_
  refine st_nil ?_
  refine kn75 _ _ ?_
  refine cndF rfl ?_
  refine skip ?_
  refine kn71 _ _ ?_
  refine seqK fun Q78 kn79 kr80 ke81 => ?_
  refine seqK fun Q82 kn83 kr84 ke85 => ?_
  refine region ?_
  refine st_q (v := .int .i64 ((0 : Nat) : Int)) (x_assign rfl) ?_
  refine st_nil ?_
  refine kn83 _ _ ?_
  refine blockK fun Q86 kn87 kr88 kx89 kb90 => ?_
  have hPs0 := Pairs.new (lo := w0.heap.size) hF65 hF66 hB63 hB64 (by omega) (by omega) (by omega) (by omega)
  obtain ⟨hbs, hhbs⟩ : ∃ l, l = [b0, b1] := ⟨_, rfl⟩
  obtain ⟨rbs, hrbs⟩ : ∃ l, l = [w20.heap.size, w34.heap.size] := ⟨_, rfl⟩
  have hQ3 : OB w57.heap 0 40 1 (w14.heap.size) 2 (flat enP hbs) := by rw [hhbs]; exact ⟨Nat.zero_le _, ⟨[], by rw [List.append_nil]; exact hB62, rfl⟩, by decide⟩
  have hQ4 : OB w57.heap 0 43 1 (w45.heap.size) 2 (flat enP rbs) := by rw [hrbs]; exact ⟨Nat.zero_le _, ⟨[], by rw [List.append_nil]; exact hB61, rfl⟩, by decide⟩
  rw [← hhbs, ← hrbs] at hPs0
  have hh3 : hbs.length = 2 := by rw [hhbs]; rfl
  have hh4 : rbs.length = 2 := by rw [hrbs]; rfl
  obtain ⟨b3, hb3⟩ : ∃ b, b = w14.heap.size := ⟨_, rfl⟩
  obtain ⟨b4, hb4⟩ : ∃ b, b = w45.heap.size := ⟨_, rfl⟩
  rw [← hb3] at hQ3
  rw [← hb4] at hQ4
  rw [← hb3, ← hb4]
  refine loopK (α := Nat × (List PS)) (fun x => [(0, .slice a sc.length ca), (3, .slice ((some ⟨b3, 0, none⟩)) 2 2), (4, .slice ((some ⟨b4, 0, none⟩)) 2 2), (5, .int .i64 ((x.1 : Nat) : Int))]) (fun x w91 => Below w0.heap.size w0 w91 ∧ x.1 ≤ sc.length ∧ Few x.2 x.1 ∧ Pairs w91.heap w0.heap.size hbs rbs x.2 ∧ OB w91.heap 0 40 1 b3 2 (flat enP hbs) ∧ OB w91.heap 0 43 1 b4 2 (flat enP rbs)) (fun x => sc.length - x.1) (0, [⟨.slice none 0 0, [], 0, .slice none 0 0, []⟩, ⟨.slice none 0 0, [], 0, .slice none 0 0, []⟩]) ⟨rfl, rfl, rfl, rfl, trivial⟩ ?_ ?_
  ·
    refine ⟨hE67, ?_⟩
    try dsimp only
    exact ⟨Nat.zero_le _, fun n hn => by rcases (by omega : n = 0 ∨ n = 1) with rfl | rfl <;> exact ⟨Nat.le_refl _, Nat.le_refl _⟩, hPs0, hQ3, hQ4⟩
  ·
    rintro τ92 ⟨i, Xs⟩ w93 ⟨hx94, ⟨hi, hFw, hPs, hq3, hq4⟩⟩
    try dsimp only at hi hFw hPs hq3 hq4
    have hz95 := hx94.le
    intro Q96 kn97 kr98 ke99
    have hl100 := hq3.lo
    have hl101 := hq3.lt
    have hl102 := hq4.lo
    have hl103 := hq4.lt
    have hXl := hPs.1
    refine seqK fun Q104 kn105 kr106 ke107 => ?_
    refine seqK fun Q108 kn109 kr110 ke111 => ?_
    refine region ?_
    refine st_q (v := .int .i64 ((i : Nat) : Int)) (x_move rfl) ?_
    refine st_q (v := .slice a sc.length ca) (x_move rfl) ?_
    refine st_q (v := .int .i64 ((sc.length : Nat) : Int)) (x_lenSl rfl Try.underlying39 rfl) ?_
    refine st_q (v := .bool (decide (i < sc.length))) (x_lssN rfl rfl) ?_
    refine st_nil ?_
    refine kn109 _ _ ?_
    refine cnd (p := i < sc.length) rfl (fun h112 => ?_) (fun h112 => ?_)
    ·
      refine skip ?_
      refine kn105 _ _ ?_
      refine seqK fun Q113 kn114 kr115 ke116 => ?_
      refine blockK fun Q117 kn118 kr119 kx120 kb121 => ?_
      refine seqK fun Q122 kn123 kr124 ke125 => ?_
      refine region ?_
      refine st_q (v := .slice a sc.length ca) (x_move rfl) ?_
      refine st_q (v := .int .i64 ((i : Nat) : Int)) (x_move rfl) ?_
      obtain ⟨b126, o127, ha128, hc129⟩ := hl.at (by omega)
      refine st_q (v := .pointer (some ⟨b126, o127 + i * 4, none⟩)) (x_index' T.sl39 rfl ha128 rfl (by omega)) ?_
      refine st_q (v := .pointer (some ⟨b126, o127 + i * 4 + 1, none⟩)) (x_field (o := o127 + i * 4) T.fa48_1 rfl) ?_
      refine st_q (v := .int .i64 ((el sc i).2.1)) (x_load1 T.na3 rfl (((hc129.below hx94).elem enO_len (i := i) (by omega)).fld 1 rfl)) ?_
      refine st_q (v := .int .i64 ((Int.tmod (el sc i).2.1 2))) (x_rem rfl rfl (by decide)) ?_
      have ht1 := tm_lo (el sc i).2.1
      have ht2 := tm_hi (el sc i).2.1
      obtain ⟨nn, hnn, hn2⟩ := tm_two (el sc i).2.1
      refine st_q (v := .int .i64 (((Int.tmod (el sc i).2.1 2) + 2))) (x_add rfl rfl ⟨by omega, by omega⟩) ?_
      refine st_q (v := .int .i64 ((nn : Nat) : Int)) (x_remE rfl rfl (by decide) hnn) ?_
      refine st_q (v := .int .i64 ((nn : Nat) : Int)) (x_assign rfl) ?_
      refine st_nil ?_
      refine kn123 _ _ ?_
      refine seqK fun Q130 kn131 kr132 ke133 => ?_
      refine regionD1 [3, 7, 11] [0, 1, 2, 3, 4, 5, 6, 7, 8, 9, 10, 11, 13] (.one 0 (.one 1 (.one 2 (.one 3 (.one 4 (.one 5 (.one 6 (.one 7 (.one 8 (.one 9 (.one 10 (.one 11 (.one 12 (.one 13 .done)))))))))))))) (by kernel_rfl) (by kernel_rfl) ?_
      intro w134 hx135 hs136
      have hF137 := hq3.ext hx135
      have hF138 := hq4.ext hx135
      have hF139 := hPs.ext hx135
      have hE140 : Below w0.heap.size w0 w134 := hx135.e hx94 (Nat.le_refl _)
      have hz141 := hE140.le
      have hs142 := hx135.size
      have hS143 : Ext w134 w134 := Below.refl _ _
      refine d_q (v := .slice ((some ⟨b3, 0, none⟩)) 2 2) rfl rfl (fun _ => x_move rfl) ?_
      refine d_q (v := .int .i64 ((nn : Nat) : Int)) rfl rfl (fun _ => x_move rfl) ?_
      refine d_q (v := .pointer (some ⟨b3, 0 + nn * 1, none⟩)) rfl rfl (fun _ => x_index T.sl42 rfl rfl (by omega)) ?_
      refine d_l (v := .pointer (some ⟨(el hbs nn), 0, none⟩)) rfl rfl rfl (fun v145 hw144 => x_load1 T.na40 rfl ((hF137.cells.elem enP_len (i := nn) (by omega)).ext hw144)) ?_
      refine d_q (v := .slice ((some ⟨b4, 0, none⟩)) 2 2) rfl rfl (fun _ => x_move rfl) ?_
      refine d_q (v := .int .i64 ((nn : Nat) : Int)) rfl rfl (fun _ => x_move rfl) ?_
      refine d_q (v := .pointer (some ⟨b4, 0 + nn * 1, none⟩)) rfl rfl (fun _ => x_index T.sl46 rfl rfl (by omega)) ?_
      refine d_l (v := .pointer (some ⟨(el rbs nn), 0, none⟩)) rfl rfl rfl (fun v147 hw146 => x_load1 T.na43 rfl ((hF138.cells.elem enP_len (i := nn) (by omega)).ext hw146)) ?_
      refine d_q (v := .slice a sc.length ca) rfl rfl (fun _ => x_move rfl) ?_
      refine d_q (v := .int .i64 ((i : Nat) : Int)) rfl rfl (fun _ => x_move rfl) ?_
      refine d_q (v := .pointer (some ⟨b126, o127 + i * 4, none⟩)) rfl rfl (fun _ => x_index' T.sl39 rfl ha128 rfl (by omega)) ?_
      refine d_l (v := .agg #[.int .i64 ((el sc i).1), .int .i64 ((el sc i).2.1), .int .i64 ((el sc i).2.2.1), .int .i64 ((el sc i).2.2.2)]) rfl rfl rfl (fun v149 hw148 => x_loadA [.int .i64 ((el sc i).1), .int .i64 ((el sc i).2.1), .int .i64 ((el sc i).2.2.1), .int .i64 ((el sc i).2.2.2)] T.ag48 rfl (((hc129.below hE140).elem enO_len (i := i) (by omega)).ext hw148)) ?_
      have hfw := hFw nn hn2
      have hRn := hF139.2.1 nn hn2
      have hno3 := PairR.neOB hRn hF137 (by decide) (by decide) (by decide) (by decide)
      have hno4 := PairR.neOB hRn hF138 (by decide) (by decide) (by decide) (by decide)
      refine d_e (by decide) (d_c' rfl rfl (t_call [.pointer (some ⟨(el hbs nn), 0, none⟩), .pointer (some ⟨(el rbs nn), 0, none⟩), .agg #[.int .i64 ((el sc i).1), .int .i64 ((el sc i).2.1), .int .i64 ((el sc i).2.2.1), .int .i64 ((el sc i).2.2.2)]] T.cf24 rfl rfl) (does24 w0.heap.size (el hbs nn) (el rbs nn) (el Xs nn) (el sc i).1 (el sc i).2.1 (el sc i).2.2 _ hRn (by omega) (by omega) (by omega)) ?_)
      rintro _ w150 ⟨rfl, X1, hP1, hM151, hf1, hl1, hx1, h41⟩
      refine ⟨_, rfl, ?_⟩
      have hF152 := hF137.mod hM151 hno3
      have hF153 := hF138.mod hM151 hno4
      have hE154 : Below w0.heap.size w0 w150 := Below.mod' hE140 hM151 (fun i hi => (hRn.lt hi).1) (Nat.le_refl _)
      have hz155 := hE154.le
      have hs156 := hM151.size
      refine ⟨need_no (by kernel_rfl), ?_⟩
      have hPn := hF139.does hn2 hP1 hM151 hf1
      have hPnl := hPn.1
      refine d_q (v := .bool false) rfl rfl (fun _ => x_notB (b := true) rfl) ?_
      refine d_done ?_
      refine kn131 _ _ ?_
      refine cndF rfl ?_
      refine skip ?_
      refine kn118 _ _ ?_
      refine kn114 _ _ ?_
      refine region ?_
      refine st_q (v := .int .i64 ((i : Nat) : Int)) (x_move rfl) ?_
      refine st_q (v := .int .i64 (((i + 1) : Nat) : Int)) (x_addN rfl rfl (by omega)) ?_
      refine st_q (v := .int .i64 (((i + 1) : Nat) : Int)) (x_assign rfl) ?_
      refine st_nil ?_
      refine kn97 _ ((i + 1), (Xs.set nn X1)) _ ⟨rfl, rfl, rfl, rfl, trivial⟩ ⟨hE154, ?_⟩ ?_
      ·
        try dsimp only
        have hfn := hFw nn hn2
        exact ⟨by omega, hFw.set hXl hn2 (by omega) (by omega) (Nat.le_succ _), hPn, hF152, hF153⟩
      ·
        (try dsimp only); omega
    ·
      refine exit ?_
      refine ke107 _ _ _ ?_
      refine ke99 _ _ _ ?_
      refine kb90 _ _ ?_
      refine kn79 _ _ ?_
      refine seqK fun Q157 kn158 kr159 ke160 => ?_
      refine seqK fun Q161 kn162 kr163 ke164 => ?_
      refine region ?_
      refine st_q (v := .int .i64 ((0 : Nat) : Int)) (x_assign rfl) ?_
      refine st_nil ?_
      refine kn162 _ _ ?_
      refine blockK fun Q165 kn166 kr167 kx168 kb169 => ?_
      refine loopK (α := Nat × (List PS)) (fun x => [(3, .slice ((some ⟨b3, 0, none⟩)) 2 2), (4, .slice ((some ⟨b4, 0, none⟩)) 2 2), (7, .int .i64 ((x.1 : Nat) : Int))]) (fun x w170 => Below w0.heap.size w0 w170 ∧ x.1 ≤ 2 ∧ Few x.2 sc.length ∧ Pairs w170.heap w0.heap.size hbs rbs x.2 ∧ OB w170.heap 0 40 1 b3 2 (flat enP hbs) ∧ OB w170.heap 0 43 1 b4 2 (flat enP rbs)) (fun x => 2 - x.1) (0, Xs) ⟨rfl, rfl, rfl, trivial⟩ ?_ ?_
      ·
        refine ⟨hx94, ?_⟩
        try dsimp only
        exact ⟨by omega, fun m hm => by have := hFw m hm; omega, hPs, hq3, hq4⟩
      ·
        rintro τ171 ⟨n, Xs⟩ w172 ⟨hx173, ⟨hn2, hFw, hPs, hq3, hq4⟩⟩
        try dsimp only at hn2 hFw hPs hq3 hq4
        have hz174 := hx173.le
        intro Q175 kn176 kr177 ke178
        have hl179 := hq3.lo
        have hl180 := hq3.lt
        have hl181 := hq4.lo
        have hl182 := hq4.lt
        have hXl := hPs.1
        refine seqK fun Q183 kn184 kr185 ke186 => ?_
        refine seqK fun Q187 kn188 kr189 ke190 => ?_
        refine region ?_
        refine st_q (v := .int .i64 ((n : Nat) : Int)) (x_move rfl) ?_
        refine st_q (v := .bool (decide (n < 2))) (x_lssN rfl rfl) ?_
        refine st_nil ?_
        refine kn188 _ _ ?_
        refine cnd (p := n < 2) rfl (fun h191 => ?_) (fun h191 => ?_)
        ·
          refine skip ?_
          refine kn184 _ _ ?_
          refine seqK fun Q192 kn193 kr194 ke195 => ?_
          refine blockK fun Q196 kn197 kr198 kx199 kb200 => ?_
          refine seqK fun Q201 kn202 kr203 ke204 => ?_
          refine blockK fun Q205 kn206 kr207 kx208 kb209 => ?_
          have hn3 : n < 2 := by omega
          refine loopK (α := (List PS)) (fun x => [(3, .slice ((some ⟨b3, 0, none⟩)) 2 2), (4, .slice ((some ⟨b4, 0, none⟩)) 2 2), (7, .int .i64 ((n : Nat) : Int))]) (fun x w210 => Below w0.heap.size w0 w210 ∧ Few x sc.length ∧ Pairs w210.heap w0.heap.size hbs rbs x ∧ OB w210.heap 0 40 1 b3 2 (flat enP hbs) ∧ OB w210.heap 0 43 1 b4 2 (flat enP rbs)) (fun x => (el x n).L.length) (Xs) ⟨rfl, rfl, rfl, trivial⟩ ?_ ?_
          ·
            refine ⟨hx173, ?_⟩
            try dsimp only
            exact ⟨hFw, hPs, hq3, hq4⟩
          ·
            rintro τ211 Xs w212 ⟨hx213, ⟨hFw, hPs, hq3, hq4⟩⟩
            try dsimp only at hFw hPs hq3 hq4
            have hz214 := hx213.le
            intro Q215 kn216 kr217 ke218
            have hl219 := hq3.lo
            have hl220 := hq3.lt
            have hl221 := hq4.lo
            have hl222 := hq4.lt
            have hXl := hPs.1
            obtain ⟨au, cu, hu, hcu, hcu1⟩ := (hPs.2.1 n hn3).own.src.form
            have hrf := (hPs.2.1 n hn3).ref
            rw [hu] at hrf
            refine seqK fun Q223 kn224 kr225 ke226 => ?_
            refine seqK fun Q227 kn228 kr229 ke230 => ?_
            refine region ?_
            refine st_q (v := .slice ((some ⟨b4, 0, none⟩)) 2 2) (x_move rfl) ?_
            refine st_q (v := .int .i64 ((n : Nat) : Int)) (x_move rfl) ?_
            refine st_q (v := .pointer (some ⟨b4, 0 + n * 1, none⟩)) (x_index T.sl46 rfl rfl (by omega)) ?_
            refine st_q (v := .pointer (some ⟨(el rbs n), 0, none⟩)) (x_load1 T.na43 rfl (hq4.cells.elem enP_len (i := n) (by omega))) ?_
            refine st_q (v := .pointer (some ⟨(el rbs n), 0, none⟩)) (x_nilCheck rfl) ?_
            refine st_q (v := .pointer (some ⟨(el rbs n), 0, none⟩)) (x_field (o := 0) T.fa45_0 rfl) ?_
            refine st_q (v := .slice au ((el Xs n).L.length) cu) (x_load1 T.na29 rfl (hrf.one 0 rfl)) ?_
            refine st_q (v := .int .i64 (((el Xs n).L.length : Nat) : Int)) (x_lenSl rfl Try.underlying29 rfl) ?_
            refine st_q (v := .bool (decide (0 < ((el Xs n).L.length)))) (x_gtrN rfl rfl) ?_
            refine st_nil ?_
            refine kn228 _ _ ?_
            refine cnd (p := 0 < ((el Xs n).L.length)) rfl (fun h231 => ?_) (fun h231 => ?_)
            ·
              refine skip ?_
              refine kn224 _ _ ?_
              refine blockK fun Q232 kn233 kr234 kx235 kb236 => ?_
              refine seqK fun Q237 kn238 kr239 ke240 => ?_
              refine regionD1 [3, 7] [0, 1, 2, 3, 4, 5, 6, 7, 8, 10] (.one 0 (.one 1 (.one 2 (.one 3 (.one 4 (.one 5 (.one 6 (.one 7 (.one 8 (.one 9 (.one 10 .done))))))))))) (by kernel_rfl) (by kernel_rfl) ?_
              intro w241 hx242 hs243
              have hB244 := hrf.ext hx242
              have hF245 := hq3.ext hx242
              have hF246 := hq4.ext hx242
              have hF247 := hPs.ext hx242
              have hE248 : Below w0.heap.size w0 w241 := hx242.e hx213 (Nat.le_refl _)
              have hz249 := hE248.le
              have hs250 := hx242.size
              have hS251 : Ext w241 w241 := Below.refl _ _
              refine d_q (v := .slice ((some ⟨b3, 0, none⟩)) 2 2) rfl rfl (fun _ => x_move rfl) ?_
              refine d_q (v := .int .i64 ((n : Nat) : Int)) rfl rfl (fun _ => x_move rfl) ?_
              refine d_q (v := .pointer (some ⟨b3, 0 + n * 1, none⟩)) rfl rfl (fun _ => x_index T.sl42 rfl rfl (by omega)) ?_
              refine d_l (v := .pointer (some ⟨(el hbs n), 0, none⟩)) rfl rfl rfl (fun v253 hw252 => x_load1 T.na40 rfl ((hF245.cells.elem enP_len (i := n) (by omega)).ext hw252)) ?_
              refine d_q (v := .slice ((some ⟨b4, 0, none⟩)) 2 2) rfl rfl (fun _ => x_move rfl) ?_
              refine d_q (v := .int .i64 ((n : Nat) : Int)) rfl rfl (fun _ => x_move rfl) ?_
              refine d_q (v := .pointer (some ⟨b4, 0 + n * 1, none⟩)) rfl rfl (fun _ => x_index T.sl46 rfl rfl (by omega)) ?_
              refine d_l (v := .pointer (some ⟨(el rbs n), 0, none⟩)) rfl rfl rfl (fun v255 hw254 => x_load1 T.na43 rfl ((hF246.cells.elem enP_len (i := n) (by omega)).ext hw254)) ?_
              refine d_q (v := .agg #[.int .i64 ((4 : Nat) : Int), .int .i64 ((0 : Nat) : Int), .int .i64 ((0 : Nat) : Int), .int .i64 ((0 : Nat) : Int)]) rfl rfl (fun _ => x_build (fun _ => by kernel_rfl)) ?_
              have hfw := hFw n hn3
              have hRn := hF247.2.1 n hn3
              have hno3 := PairR.neOB hRn hF245 (by decide) (by decide) (by decide) (by decide)
              have hno4 := PairR.neOB hRn hF246 (by decide) (by decide) (by decide) (by decide)
              refine d_e (by decide) (d_c' rfl rfl (t_call [.pointer (some ⟨(el hbs n), 0, none⟩), .pointer (some ⟨(el rbs n), 0, none⟩), .agg #[.int .i64 ((4 : Nat) : Int), .int .i64 ((0 : Nat) : Int), .int .i64 ((0 : Nat) : Int), .int .i64 ((0 : Nat) : Int)]] T.cf24 rfl rfl) (does24 w0.heap.size (el hbs n) (el rbs n) (el Xs n) ((4 : Nat) : Int) ((0 : Nat) : Int) (((0 : Nat) : Int), ((0 : Nat) : Int)) _ hRn (by omega) (by omega) (by omega)) ?_)
              rintro _ w256 ⟨rfl, X1, hP1, hM257, hf1, hl1, hx1, h41⟩
              refine ⟨_, rfl, ?_⟩
              have hF258 := hF245.mod hM257 hno3
              have hF259 := hF246.mod hM257 hno4
              have hE260 : Below w0.heap.size w0 w256 := Below.mod' hE248 hM257 (fun i hi => (hRn.lt hi).1) (Nat.le_refl _)
              have hz261 := hE260.le
              have hs262 := hM257.size
              refine ⟨need_no (by kernel_rfl), ?_⟩
              have hPn := hF247.does hn3 hP1 hM257 hf1
              have hPnl := hPn.1
              have h41 := h41 (by decide)
              refine d_q (v := .bool false) rfl rfl (fun _ => x_notB (b := true) rfl) ?_
              refine d_done ?_
              refine kn238 _ _ ?_
              refine cndF rfl ?_
              refine skip ?_
              refine kn233 _ _ ?_
              refine kn216 _ ((Xs.set n X1)) _ ⟨rfl, rfl, rfl, trivial⟩ ⟨hE260, ?_⟩ ?_
              ·
                try dsimp only
                exact ⟨hFw.set hXl hn3 (by omega) (by omega) (Nat.le_refl _), hPn, hF258, hF259⟩
              ·
                (try dsimp only); rw [el_set_same (by omega)]; omega
            ·
              refine exit ?_
              refine ke226 _ _ _ ?_
              refine ke218 _ _ _ ?_
              refine kb209 _ _ ?_
              refine kn202 _ _ ?_
              refine seqK fun Q263 kn264 kr265 ke266 => ?_
              refine regionM1 (fun k => k ≠ b3 ∧ k ≠ b4) [3, 7, 15] [0, 1, 2, 3, 4, 5, 6, 7, 8, 10, 11, 12, 13, 14, 15, 17, 18] (.one 0 (.one 1 (.one 2 (.one 3 (.one 4 (.one 5 (.one 6 (.one 7 (.one 8 (.one 9 (.one 10 (.one 11 (.one 12 (.one 13 (.one 14 (.one 15 (.one 16 (.one 17 (.one 18 .done))))))))))))))))))) (by kernel_rfl) (by kernel_rfl) ?_
              intro w267 hx268 hs269
              have hB270 := hrf.ext hx268
              have hF271 := hq3.ext hx268
              have hF272 := hq4.ext hx268
              have hF273 := hPs.ext hx268
              have hE274 : Below w0.heap.size w0 w267 := hx268.e hx213 (Nat.le_refl _)
              have hz275 := hE274.le
              have hs276 := hx268.size
              have hS277 : Mod (fun k => k ≠ b3 ∧ k ≠ b4) w267 w267 := Mod.refl _ _
              refine d_q (v := .slice ((some ⟨b3, 0, none⟩)) 2 2) rfl rfl (fun _ => x_move rfl) ?_
              refine d_q (v := .int .i64 ((n : Nat) : Int)) rfl rfl (fun _ => x_move rfl) ?_
              refine d_q (v := .pointer (some ⟨b3, 0 + n * 1, none⟩)) rfl rfl (fun _ => x_index T.sl42 rfl rfl (by omega)) ?_
              refine d_l (v := .pointer (some ⟨(el hbs n), 0, none⟩)) rfl rfl rfl (fun v279 hw278 => x_load1 T.na40 rfl (Cells.keep (hF271.cells.elem enP_len (i := n) (by omega)) (hw278.block _ (Cells.lt (hF271.cells.elem enP_len (i := n) (by omega))) (fun h => h.1 rfl)))) ?_
              refine d_q (v := .slice ((some ⟨b4, 0, none⟩)) 2 2) rfl rfl (fun _ => x_move rfl) ?_
              refine d_q (v := .int .i64 ((n : Nat) : Int)) rfl rfl (fun _ => x_move rfl) ?_
              refine d_q (v := .pointer (some ⟨b4, 0 + n * 1, none⟩)) rfl rfl (fun _ => x_index T.sl46 rfl rfl (by omega)) ?_
              refine d_l (v := .pointer (some ⟨(el rbs n), 0, none⟩)) rfl rfl rfl (fun v281 hw280 => x_load1 T.na43 rfl (Cells.keep (hF272.cells.elem enP_len (i := n) (by omega)) (hw280.block _ (Cells.lt (hF272.cells.elem enP_len (i := n) (by omega))) (fun h => h.2 rfl)))) ?_
              refine d_q (v := .agg #[.int .i64 ((4 : Nat) : Int), .int .i64 ((0 : Nat) : Int), .int .i64 ((0 : Nat) : Int), .int .i64 ((0 : Nat) : Int)]) rfl rfl (fun _ => x_build (fun _ => by kernel_rfl)) ?_
              have hfw := hFw n hn3
              have hRn := hF273.2.1 n hn3
              have hno3 := PairR.neOB hRn hF271 (by decide) (by decide) (by decide) (by decide)
              have hno4 := PairR.neOB hRn hF272 (by decide) (by decide) (by decide) (by decide)
              refine d_e (by decide) (d_c' rfl rfl (t_call [.pointer (some ⟨(el hbs n), 0, none⟩), .pointer (some ⟨(el rbs n), 0, none⟩), .agg #[.int .i64 ((4 : Nat) : Int), .int .i64 ((0 : Nat) : Int), .int .i64 ((0 : Nat) : Int), .int .i64 ((0 : Nat) : Int)]] T.cf24 rfl rfl) (does24 w0.heap.size (el hbs n) (el rbs n) (el Xs n) ((4 : Nat) : Int) ((0 : Nat) : Int) (((0 : Nat) : Int), ((0 : Nat) : Int)) _ hRn (by omega) (by omega) (by omega)) ?_)
              rintro _ w282 ⟨rfl, X1, hP1, hM283, hf1, hl1, hx1, h41⟩
              refine ⟨_, rfl, ?_⟩
              have hF284 := hF271.mod hM283 hno3
              have hF285 := hF272.mod hM283 hno4
              have hE286 : Below w0.heap.size w0 w282 := Below.mod' hE274 hM283 (fun i hi => (hRn.lt hi).1) (Nat.le_refl _)
              have hz287 := hE286.le
              have hs288 := hM283.size
              have hS289 := Mod.trans' hS277 hM283 (fun i hi => .inl ⟨fun e => hno3 (e ▸ hi), fun e => hno4 (e ▸ hi)⟩)
              refine ⟨fun _ => hS289, ?_⟩
              have hPn := hF273.does hn3 hP1 hM283 hf1
              have hPnl := hPn.1
              have h41 := h41 (by decide)
              refine d_q (v := .bool false) rfl rfl (fun _ => x_notB (b := true) rfl) ?_
              refine d_q (v := .bool false) rfl rfl (fun _ => x_move rfl) ?_
              refine d_gq (v := .slice ((some ⟨b3, 0, none⟩)) 2 2) (j := 11) (t := 97) rfl rfl rfl rfl (by decide) (fun _ => x_move rfl) ?_
              refine d_gq (v := .int .i64 ((n : Nat) : Int)) (j := 11) (t := 97) rfl rfl rfl rfl (by decide) (fun _ => x_move rfl) ?_
              refine d_gq (v := .pointer (some ⟨b3, 0 + n * 1, none⟩)) (j := 11) (t := 97) rfl rfl rfl rfl (by decide) (fun _ => x_index T.sl42 rfl rfl (by omega)) ?_
              refine d_gl (v := .pointer (some ⟨(el hbs n), 0, none⟩)) (j := 11) (t := 97) rfl rfl rfl rfl rfl (by decide) (fun v291 hw290 => x_load1 T.na40 rfl (Cells.keep (hF271.cells.elem enP_len (i := n) (by omega)) (hw290.block _ (Cells.lt (hF271.cells.elem enP_len (i := n) (by omega))) (fun h => h.1 rfl)))) ?_
              have hR2 := hPn.2.1 n hn3
              rw [el_set_same (by omega)] at hR2
              have hes0 : X1.es.length = 0 := by rw [hR2.mt.len]; omega
              refine d_e (by decide) (d_c' rfl (wanted_true (j := 11) (t := 97) rfl rfl (by decide)) (t_call [.pointer (some ⟨(el hbs n), 0, none⟩)] T.cf25 rfl rfl) (len25 w0.heap.size (el hbs n) X1.nx _ X1.v X1.es _ hR2.heap) ?_)
              rintro _ w292 ⟨rfl, hx293⟩
              refine ⟨_, rfl, ?_⟩
              have hF294 := hF284.ext hx293
              have hF295 := hF285.ext hx293
              have hF296 := hPn.ext hx293
              have hE297 : Below w0.heap.size w0 w292 := hx293.e hE286 (Nat.le_refl _)
              have hz298 := hE297.le
              have hs299 := hx293.size
              have hS300 := hS289.ext hx293
              refine ⟨fun _ => hS300, ?_⟩
              refine d_gq (v := .bool (decide (X1.es.length ≠ 0))) (j := 11) (t := 97) rfl rfl rfl rfl (by decide) (fun _ => x_neqN rfl rfl) ?_
              refine d_q (v := .bool (decide (X1.es.length ≠ 0))) rfl rfl (fun _ => x_pickF rfl rfl) ?_
              refine d_done ?_
              refine kn264 _ _ ?_
              refine cnd (p := X1.es.length ≠ 0) rfl (fun h301 => ?_) (fun h301 => ?_)
              ·
                exact absurd h301 (not_not_intro hes0)
              ·
                refine skip ?_
                refine kn197 _ _ ?_
                refine kn193 _ _ ?_
                refine region ?_
                refine st_q (v := .int .i64 ((n : Nat) : Int)) (x_move rfl) ?_
                refine st_q (v := .int .i64 (((n + 1) : Nat) : Int)) (x_addN rfl rfl (by omega)) ?_
                refine st_q (v := .int .i64 (((n + 1) : Nat) : Int)) (x_assign rfl) ?_
                refine st_nil ?_
                refine kn176 _ ((n + 1), (Xs.set n X1)) _ ⟨rfl, rfl, rfl, trivial⟩ ⟨hE297, ?_⟩ ?_
                ·
                  try dsimp only
                  exact ⟨by omega, hFw.set hXl hn3 (by omega) (by omega) (Nat.le_refl _), hF296, hF294, hF295⟩
                ·
                  (try dsimp only); omega
        ·
          refine exit ?_
          refine ke186 _ _ _ ?_
          refine ke178 _ _ _ ?_
          refine kb169 _ _ ?_
          refine kn158 _ _ ?_
          refine seqK fun Q302 kn303 kr304 ke305 => ?_
          refine region ?_
          refine st_q (v := .pointer none) (x_assign rfl) ?_
          refine st_nil ?_
          refine kn303 _ _ ?_
          refine seqK fun Q306 kn307 kr308 ke309 => ?_
          refine region ?_
          refine st_q (v := .pointer none) (x_move rfl) ?_
          refine st_c (t_call [.int .i64 ((1 : Nat) : Int), .int .i64 ((1 : Nat) : Int)] T.cf27 rfl rfl) (thing27 ((1 : Nat) : Int) ((1 : Nat) : Int) _) ?_
          rintro _ w310 ⟨rfl, hx311⟩
          refine ⟨_, rfl, ?_⟩
          have hF312 := hq3.ext hx311
          have hF313 := hq4.ext hx311
          have hF314 := hPs.ext hx311
          have hE315 : Below w0.heap.size w0 w310 := hx311.e hx173 (Nat.le_refl _)
          have hz316 := hE315.le
          have hs317 := hx311.size
          refine st_c (t_call [.pointer none, .agg #[.int .i64 ((1 : Nat) : Int), .int .i64 ((1 : Nat) : Int)]] T.cf26 rfl rfl) (push26nil (((1 : Nat) : Int), ((1 : Nat) : Int)) _) ?_
          rintro _ w318 ⟨rfl, hx319⟩
          refine ⟨_, rfl, ?_⟩
          have hF320 := hF312.ext hx319
          have hF321 := hF313.ext hx319
          have hF322 := hF314.ext hx319
          have hE323 : Below w0.heap.size w0 w318 := hx319.e hE315 (Nat.le_refl _)
          have hz324 := hE323.le
          have hs325 := hx319.size
          refine st_nil ?_
          refine kn307 _ _ ?_
          refine seqK fun Q326 kn327 kr328 ke329 => ?_
          refine region ?_
          refine st_q (v := .pointer none) (x_move rfl) ?_
          refine st_c (t_call [.pointer none] T.cf28 rfl rfl) (pop28nil _) ?_
          rintro _ w330 ⟨rfl, hx331⟩
          refine ⟨_, rfl, ?_⟩
          have hF332 := hF320.ext hx331
          have hF333 := hF321.ext hx331
          have hF334 := hF322.ext hx331
          have hE335 : Below w0.heap.size w0 w330 := hx331.e hE323 (Nat.le_refl _)
          have hz336 := hE335.le
          have hs337 := hx331.size
          refine st_q (v := .tuple #[.agg #[.int .i64 ((0 : Nat) : Int), .int .i64 ((0 : Nat) : Int)], .bool false]) (x_move rfl) ?_
          refine st_q (v := .agg #[.int .i64 ((0 : Nat) : Int), .int .i64 ((0 : Nat) : Int)]) (x_extract rfl rfl) ?_
          refine st_q (v := .bool false) (x_extract rfl rfl) ?_
          refine st_e (e_alloc T.zv31 ?_)
          intro w338 hA339
          have hx340 := hA339.ext
          have hs341 := hA339.size
          have hB342 : Blk w338.heap w330.heap.size [.int .i64 ((0 : Nat) : Int), .int .i64 ((0 : Nat) : Int)] 31 := hA339.new
          have hF343 := hF332.ext hx340
          have hF344 := hF333.ext hx340
          have hF345 := hF334.ext hx340
          have hE346 : Below w0.heap.size w0 w338 := hx340.e hE335 (Nat.le_refl _)
          have hz347 := hE346.le
          have hs348 := hx340.size
          refine st_s (e_st (v := .agg #[.int .i64 ((0 : Nat) : Int), .int .i64 ((0 : Nat) : Int)]) T.sz31 rfl rfl hB342 (by simp [Value.cells]) (by rfl) ?_)
          intro w349 hP350
          have hB351 : Blk w349.heap w330.heap.size [.int .i64 ((0 : Nat) : Int), .int .i64 ((0 : Nat) : Int)] 31 := hP350.new
          have hs352 := hP350.size
          have hE356 : Below w0.heap.size w0 w349 := hP350.below hE346 (by omega)
          have hz357 := hE356.le
          refine st_q (v := .bool false) (x_assign rfl) ?_
          refine st_nil ?_
          refine kn327 _ _ ?_
          refine seqK fun Q358 kn359 kr360 ke361 => ?_
          refine region ?_
          refine st_q (v := .pointer none) (x_move rfl) ?_
          refine st_c (t_call [.pointer none] T.cf29 rfl rfl) (peek29nil _) ?_
          rintro _ w362 ⟨rfl, hx363⟩
          refine ⟨_, rfl, ?_⟩
          have hB364 := hB351.ext hx363
          have hE365 : Below w0.heap.size w0 w362 := hx363.e hE356 (Nat.le_refl _)
          have hz366 := hE365.le
          have hs367 := hx363.size
          refine st_q (v := .tuple #[.agg #[.int .i64 ((0 : Nat) : Int), .int .i64 ((0 : Nat) : Int)], .bool false]) (x_move rfl) ?_
          refine st_q (v := .agg #[.int .i64 ((0 : Nat) : Int), .int .i64 ((0 : Nat) : Int)]) (x_extract rfl rfl) ?_
          refine st_q (v := .bool false) (x_extract rfl rfl) ?_
          refine st_e (e_alloc T.zv31 ?_)
          intro w368 hA369
          have hx370 := hA369.ext
          have hs371 := hA369.size
          have hB372 : Blk w368.heap w362.heap.size [.int .i64 ((0 : Nat) : Int), .int .i64 ((0 : Nat) : Int)] 31 := hA369.new
          have hB373 := hB364.ext hx370
          have hE374 : Below w0.heap.size w0 w368 := hx370.e hE365 (Nat.le_refl _)
          have hz375 := hE374.le
          have hs376 := hx370.size
          refine st_s (e_st (v := .agg #[.int .i64 ((0 : Nat) : Int), .int .i64 ((0 : Nat) : Int)]) T.sz31 rfl rfl hB372 (by simp [Value.cells]) (by rfl) ?_)
          intro w377 hP378
          have hB379 : Blk w377.heap w362.heap.size [.int .i64 ((0 : Nat) : Int), .int .i64 ((0 : Nat) : Int)] 31 := hP378.new
          have hs380 := hP378.size
          have hB381 := hB373.pt hP378 (by omega)
          have hE382 : Below w0.heap.size w0 w377 := hP378.below hE374 (by omega)
          have hz383 := hE382.le
          refine st_q (v := .bool false) (x_assign rfl) ?_
          refine st_nil ?_
          refine kn359 _ _ ?_
          refine seqK fun Q384 kn385 kr386 ke387 => ?_
          refine region ?_
          refine st_q (v := .agg #[.nilFunc, .slice none 0 0, .int .i64 ((0 : Nat) : Int)]) (x_build (fun _ => by kernel_rfl)) ?_
          refine st_e (e_box (v := .agg #[.nilFunc, .slice none 0 0, .int .i64 ((0 : Nat) : Int)]) rfl ?_)
          intro w388 hA389
          have hx390 := hA389.ext
          have hs391 := hA389.size
          have hB392 : Blk w388.heap w377.heap.size [.nilFunc, .slice none 0 0, .int .i64 ((0 : Nat) : Int)] 57 := hA389.new
          have hB393 := hB381.ext hx390
          have hB394 := hB379.ext hx390
          have hE395 : Below w0.heap.size w0 w388 := hx390.e hE382 (Nat.le_refl _)
          have hz396 := hE395.le
          have hs397 := hx390.size
          refine st_q (v := .pointer (some ⟨w377.heap.size, 0, none⟩)) (x_assign rfl) ?_
          refine st_nil ?_
          refine kn385 _ _ ?_
          refine seqK fun Q398 kn399 kr400 ke401 => ?_
          refine region ?_
          refine st_q (v := .pointer (some ⟨w377.heap.size, 0, none⟩)) (x_move rfl) ?_
          refine st_c (t_call [.int .i64 ((2 : Nat) : Int), .int .i64 ((1 : Nat) : Int)] T.cf27 rfl rfl) (thing27 ((2 : Nat) : Int) ((1 : Nat) : Int) _) ?_
          rintro _ w402 ⟨rfl, hx403⟩
          refine ⟨_, rfl, ?_⟩
          have hB404 := hB393.ext hx403
          have hB405 := hB394.ext hx403
          have hB406 := hB392.ext hx403
          have hE407 : Below w0.heap.size w0 w402 := hx403.e hE395 (Nat.le_refl _)
          have hz408 := hE407.le
          have hs409 := hx403.size
          have hzl : w0.heap.size ≤ w377.heap.size := by omega
          have hZ0 : HeapR w402.heap (w377.heap.size) 57 78 3 (enE enT) (w377.heap.size) .nilFunc (.slice none 0 0) ([] : List ((Int × Int) × Nat)) 0 := ⟨Nat.le_refl _, hB406, Own.nil _ _ _ _, by simp [Value.ownBlock]⟩
          refine st_c (t_call [.pointer (some ⟨w377.heap.size, 0, none⟩), .agg #[.int .i64 ((2 : Nat) : Int), .int .i64 ((1 : Nat) : Int)]] T.cf26 rfl rfl) (push26 (w377.heap.size) 68 c0 T.cf68 cmp68 c0_law .nilFunc told68 (w377.heap.size) 0 _ [] (((2 : Nat) : Int), ((1 : Nat) : Int)) _ hZ0 (by decide) (by decide) (fun i h1 h2 => by simp at h2)) ?_
          rintro _ w410 ⟨rfl, v1, es1, hM1, hH1, hP1, hQ1, _⟩
          refine ⟨_, rfl, ?_⟩
          have hB411 := hB404.mod hM1 (fun h => h.elim (hB404.neB hZ0.blk (by decide)) (fun h => hB404.neO hZ0.own (by decide) h))
          have hB412 := hB405.mod hM1 (fun h => h.elim (hB405.neB hZ0.blk (by decide)) (fun h => hB405.neO hZ0.own (by decide) h))
          have hE413 : Below w0.heap.size w0 w410 := Below.mod' hE407 hM1 (fun i hi => Nat.le_trans hzl (HeapR.low hZ0 i hi)) (Nat.le_refl _)
          have hz414 := hE413.le
          have hs415 := hM1.size
          refine st_nil ?_
          refine kn399 _ _ ?_
          refine seqK fun Q416 kn417 kr418 ke419 => ?_
          refine region ?_
          refine st_q (v := .pointer (some ⟨w377.heap.size, 0, none⟩)) (x_move rfl) ?_
          refine st_c (t_call [.int .i64 ((1 : Nat) : Int), .int .i64 ((2 : Nat) : Int)] T.cf27 rfl rfl) (thing27 ((1 : Nat) : Int) ((2 : Nat) : Int) _) ?_
          rintro _ w420 ⟨rfl, hx421⟩
          refine ⟨_, rfl, ?_⟩
          have hB422 := hB411.ext hx421
          have hB423 := hB412.ext hx421
          have hF424 := hH1.ext hx421
          have hE425 : Below w0.heap.size w0 w420 := hx421.e hE413 (Nat.le_refl _)
          have hz426 := hE425.le
          have hs427 := hx421.size
          refine st_c (t_call [.pointer (some ⟨w377.heap.size, 0, none⟩), .agg #[.int .i64 ((1 : Nat) : Int), .int .i64 ((2 : Nat) : Int)]] T.cf26 rfl rfl) (push26 (w377.heap.size) 68 c0 T.cf68 cmp68 c0_law .nilFunc told68 (w377.heap.size) 1 _ es1 (((1 : Nat) : Int), ((2 : Nat) : Int)) _ hF424 (by have := hQ1.length_eq; simp at this; omega) (by decide) hP1) ?_
          rintro _ w428 ⟨rfl, v2, es2, hM2, hH2, hP2, hQ2, _⟩
          refine ⟨_, rfl, ?_⟩
          have hB429 := hB422.mod hM2 (fun h => h.elim (hB422.neB hF424.blk (by decide)) (fun h => hB422.neO hF424.own (by decide) h))
          have hB430 := hB423.mod hM2 (fun h => h.elim (hB423.neB hF424.blk (by decide)) (fun h => hB423.neO hF424.own (by decide) h))
          have hE431 : Below w0.heap.size w0 w428 := Below.mod' hE425 hM2 (fun i hi => Nat.le_trans hzl (HeapR.low hF424 i hi)) (Nat.le_refl _)
          have hz432 := hE431.le
          have hs433 := hM2.size
          refine st_nil ?_
          refine kn417 _ _ ?_
          refine seqK fun Q434 kn435 kr436 ke437 => ?_
          refine region ?_
          refine st_q (v := .pointer (some ⟨w377.heap.size, 0, none⟩)) (x_move rfl) ?_
          have hQ : es2.Perm [((((2 : Nat) : Int), ((1 : Nat) : Int)), 0), ((((1 : Nat) : Int), ((2 : Nat) : Int)), 1)] := hQ2.trans (hQ1.append_right _)
          have hl2x : es2.length = 2 := hQ.length_eq
          have hpz := popz hP2 hQ
          refine st_c (t_call [.pointer (some ⟨w377.heap.size, 0, none⟩)] T.cf28 rfl rfl) (pop28 (w377.heap.size) 68 c0 T.cf68 cmp68 c0_law .nilFunc told68 (w377.heap.size) 2 _ es2 _ hH2 (by omega) (by omega) hP2) ?_
          rintro _ w438 ⟨he, v3, es3, hM3, hH3, hP3, hQ3, _⟩
          rw [hpz] at he
          subst he
          refine ⟨_, rfl, ?_⟩
          have hB439 := hB429.mod hM3 (fun h => h.elim (hB429.neB hH2.blk (by decide)) (fun h => hB429.neO hH2.own (by decide) h))
          have hB440 := hB430.mod hM3 (fun h => h.elim (hB430.neB hH2.blk (by decide)) (fun h => hB430.neO hH2.own (by decide) h))
          have hE441 : Below w0.heap.size w0 w438 := Below.mod' hE431 hM3 (fun i hi => Nat.le_trans hzl (HeapR.low hH2 i hi)) (Nat.le_refl _)
          have hz442 := hE441.le
          have hs443 := hM3.size
          have hl3 : es3.length = 1 := by have := hQ3.length_eq; simp at this; omega
          refine st_q (v := .tuple #[.agg #[.int .i64 ((2 : Nat) : Int), .int .i64 ((1 : Nat) : Int)], .bool true]) (x_move rfl) ?_
          refine st_q (v := .agg #[.int .i64 ((2 : Nat) : Int), .int .i64 ((1 : Nat) : Int)]) (x_extract rfl rfl) ?_
          refine st_q (v := .bool true) (x_extract rfl rfl) ?_
          refine st_e (e_alloc T.zv31 ?_)
          intro w444 hA445
          have hx446 := hA445.ext
          have hs447 := hA445.size
          have hB448 : Blk w444.heap w438.heap.size [.int .i64 ((0 : Nat) : Int), .int .i64 ((0 : Nat) : Int)] 31 := hA445.new
          have hB449 := hB439.ext hx446
          have hB450 := hB440.ext hx446
          have hF451 := hH3.ext hx446
          have hE452 : Below w0.heap.size w0 w444 := hx446.e hE441 (Nat.le_refl _)
          have hz453 := hE452.le
          have hs454 := hx446.size
          refine st_s (e_st (v := .agg #[.int .i64 ((2 : Nat) : Int), .int .i64 ((1 : Nat) : Int)]) T.sz31 rfl rfl hB448 (by simp [Value.cells]) (by rfl) ?_)
          intro w455 hP456
          have hB457 : Blk w455.heap w438.heap.size [.int .i64 ((2 : Nat) : Int), .int .i64 ((1 : Nat) : Int)] 31 := hP456.new
          have hs458 := hP456.size
          have hB459 := hB449.pt hP456 (by omega)
          have hB460 := hB450.pt hP456 (by omega)
          have hF461 := HeapR.mod hF451 ((Mod.refl (fun k => k = w438.heap.size) _).pt hP456 (.inl rfl)) (fun h => hB448.neB hF451.blk (by decide) h.symm) (fun k e h => hB448.neO hF451.own (by decide) (h ▸ e))
          have hE462 : Below w0.heap.size w0 w455 := hP456.below hE452 (by omega)
          have hz463 := hE462.le
          refine st_q (v := .bool true) (x_assign rfl) ?_
          refine st_nil ?_
          refine kn435 _ _ ?_
          refine seqK fun Q464 kn465 kr466 ke467 => ?_
          refine regionD1 [7, 12, 13, 25] [0, 1, 2, 3, 4, 5, 6, 7, 8, 9, 10, 11, 12, 13, 14, 15, 16, 17, 19, 20, 21, 22, 23, 24, 25, 27, 28, 29, 30, 32, 33, 34, 36, 37] (.one 0 (.one 1 (.one 2 (.one 3 (.one 4 (.one 5 (.one 6 (.one 7 (.one 8 (.one 9 (.one 10 (.one 11 (.one 12 (.one 13 (.one 14 (.one 15 (.one 16 (.one 17 (.one 18 (.one 19 (.one 20 (.one 21 (.one 22 (.one 23 (.one 24 (.one 25 (.one 26 (.one 27 (.one 28 (.one 29 (.one 30 (.one 31 (.one 32 (.one 33 (.one 34 (.one 35 (.one 36 (.one 37 .done)))))))))))))))))))))))))))))))))))))) (by kernel_rfl) (by kernel_rfl) ?_
          intro w468 hx469 hs470
          have hB471 := hB459.ext hx469
          have hB472 := hB460.ext hx469
          have hB473 := hB457.ext hx469
          have hF474 := hF461.ext hx469
          have hE475 : Below w0.heap.size w0 w468 := hx469.e hE462 (Nat.le_refl _)
          have hz476 := hE475.le
          have hs477 := hx469.size
          have hS478 : Ext w468 w468 := Below.refl _ _
          refine d_q (v := .bool false) rfl rfl (fun _ => x_move rfl) ?_
          refine d_q (v := .bool true) rfl rfl (fun _ => x_notB (b := false) rfl) ?_
          refine d_q (v := .bool true) rfl rfl (fun _ => x_move rfl) ?_
          refine d_gq (v := .bool false) (j := 2) (t := 133) rfl rfl rfl rfl (by decide) (fun _ => x_move rfl) ?_
          refine d_gq (v := .bool true) (j := 2) (t := 133) rfl rfl rfl rfl (by decide) (fun _ => x_notB (b := false) rfl) ?_
          refine d_q (v := .bool true) rfl rfl (fun _ => x_pickT rfl rfl) ?_
          refine d_q (v := .bool true) rfl rfl (fun _ => x_move rfl) ?_
          refine d_gl (v := .agg #[.int .i64 ((0 : Nat) : Int), .int .i64 ((0 : Nat) : Int)]) (j := 6) (t := 137) rfl rfl rfl rfl rfl (by decide) (fun v480 hw479 => x_loadA [.int .i64 ((0 : Nat) : Int), .int .i64 ((0 : Nat) : Int)] T.ag31 rfl ((hB471.cells 0 [.int .i64 ((0 : Nat) : Int), .int .i64 ((0 : Nat) : Int)] (cells_at rfl)).ext hw479)) ?_
          refine d_gq (v := .agg #[.int .i64 ((0 : Nat) : Int), .int .i64 ((0 : Nat) : Int)]) (j := 6) (t := 137) rfl rfl rfl rfl (by decide) (fun _ => x_build (fun _ => by kernel_rfl)) ?_
          refine d_gq (v := .bool (decide ((((0 : Nat) : Int), ((0 : Nat) : Int)) = (((0 : Nat) : Int), ((0 : Nat) : Int))))) (j := 6) (t := 137) rfl rfl rfl rfl (by decide) (fun _ => x_eql2 T.eq2_31 rfl rfl) ?_
          refine d_q (v := .bool (decide ((((0 : Nat) : Int), ((0 : Nat) : Int)) = (((0 : Nat) : Int), ((0 : Nat) : Int))))) rfl rfl (fun _ => x_pickT rfl rfl) ?_
          refine d_if rfl rfl (p := (((0 : Nat) : Int), ((0 : Nat) : Int)) = (((0 : Nat) : Int), ((0 : Nat) : Int))) (fun _ => x_move rfl) (fun h481 => ?_) (fun h481 => ?_)
          ·
            clear h481
            refine d_gl (v := .agg #[.int .i64 ((0 : Nat) : Int), .int .i64 ((0 : Nat) : Int)]) (j := 11) (t := 142) rfl rfl rfl rfl rfl (by decide) (fun v483 hw482 => x_loadA [.int .i64 ((0 : Nat) : Int), .int .i64 ((0 : Nat) : Int)] T.ag31 rfl ((hB472.cells 0 [.int .i64 ((0 : Nat) : Int), .int .i64 ((0 : Nat) : Int)] (cells_at rfl)).ext hw482)) ?_
            refine d_gl (v := .agg #[.int .i64 ((0 : Nat) : Int), .int .i64 ((0 : Nat) : Int)]) (j := 11) (t := 142) rfl rfl rfl rfl rfl (by decide) (fun v485 hw484 => x_loadA [.int .i64 ((0 : Nat) : Int), .int .i64 ((0 : Nat) : Int)] T.ag31 rfl ((hB471.cells 0 [.int .i64 ((0 : Nat) : Int), .int .i64 ((0 : Nat) : Int)] (cells_at rfl)).ext hw484)) ?_
            refine d_gq (v := .bool (decide ((((0 : Nat) : Int), ((0 : Nat) : Int)) = (((0 : Nat) : Int), ((0 : Nat) : Int))))) (j := 11) (t := 142) rfl rfl rfl rfl (by decide) (fun _ => x_eql2 T.eq2_31 rfl rfl) ?_
            refine d_q (v := .bool (decide ((((0 : Nat) : Int), ((0 : Nat) : Int)) = (((0 : Nat) : Int), ((0 : Nat) : Int))))) rfl rfl (fun _ => x_pickT rfl rfl) ?_
            refine d_if rfl rfl (p := (((0 : Nat) : Int), ((0 : Nat) : Int)) = (((0 : Nat) : Int), ((0 : Nat) : Int))) (fun _ => x_move rfl) (fun h486 => ?_) (fun h486 => ?_)
            ·
              clear h486
              refine d_gq (v := .pointer none) (j := 16) (t := 147) rfl rfl rfl rfl (by decide) (fun _ => x_move rfl) ?_
              refine d_e (by decide) (d_c' rfl (wanted_true (j := 16) (t := 147) rfl rfl (by decide)) (t_call [.pointer none] T.cf25 rfl rfl) (len25nil _) ?_)
              rintro _ w487 ⟨rfl, hx488⟩
              refine ⟨_, rfl, ?_⟩
              have hB489 := hB471.ext hx488
              have hB490 := hB472.ext hx488
              have hB491 := hB473.ext hx488
              have hF492 := hF474.ext hx488
              have hE493 : Below w0.heap.size w0 w487 := hx488.e hE475 (Nat.le_refl _)
              have hz494 := hE493.le
              have hs495 := hx488.size
              have hS496 := hS478.trans (hx488.mono hS478.size)
              refine ⟨fun _ => hS496, ?_⟩
              refine d_gq (v := .bool (decide (0 = 0))) (j := 16) (t := 147) rfl rfl rfl rfl (by decide) (fun _ => x_eqlN rfl rfl) ?_
              refine d_q (v := .bool (decide (0 = 0))) rfl rfl (fun _ => x_pickT rfl rfl) ?_
              refine d_if rfl rfl (p := 0 = 0) (fun _ => x_move rfl) (fun h497 => ?_) (fun h497 => ?_)
              ·
                clear h497
                refine d_gq (v := .bool true) (j := 21) (t := 152) rfl rfl rfl rfl (by decide) (fun _ => x_move rfl) ?_
                refine d_q (v := .bool true) rfl rfl (fun _ => x_pickT rfl rfl) ?_
                refine d_q (v := .bool true) rfl rfl (fun _ => x_move rfl) ?_
                refine d_gl (v := .agg #[.int .i64 ((2 : Nat) : Int), .int .i64 ((1 : Nat) : Int)]) (j := 24) (t := 155) rfl rfl rfl rfl rfl (by decide) (fun v499 hw498 => x_loadA [.int .i64 ((2 : Nat) : Int), .int .i64 ((1 : Nat) : Int)] T.ag31 rfl ((hB473.cells 0 [.int .i64 ((2 : Nat) : Int), .int .i64 ((1 : Nat) : Int)] (cells_at rfl)).ext hw498)) ?_
                refine d_e (by decide) (d_c' rfl (wanted_true (j := 24) (t := 155) rfl rfl (by decide)) (t_call [.int .i64 ((2 : Nat) : Int), .int .i64 ((1 : Nat) : Int)] T.cf27 rfl rfl) (thing27 ((2 : Nat) : Int) ((1 : Nat) : Int) _) ?_)
                rintro _ w500 ⟨rfl, hx501⟩
                refine ⟨_, rfl, ?_⟩
                have hB502 := hB489.ext hx501
                have hB503 := hB490.ext hx501
                have hB504 := hB491.ext hx501
                have hF505 := hF492.ext hx501
                have hE506 : Below w0.heap.size w0 w500 := hx501.e hE493 (Nat.le_refl _)
                have hz507 := hE506.le
                have hs508 := hx501.size
                have hS509 := hS496.trans (hx501.mono hS496.size)
                refine ⟨fun _ => hS509, ?_⟩
                refine d_gq (v := .bool (decide ((((2 : Nat) : Int), ((1 : Nat) : Int)) = (((2 : Nat) : Int), ((1 : Nat) : Int))))) (j := 24) (t := 155) rfl rfl rfl rfl (by decide) (fun _ => x_eql2 T.eq2_31 rfl rfl) ?_
                refine d_q (v := .bool (decide ((((2 : Nat) : Int), ((1 : Nat) : Int)) = (((2 : Nat) : Int), ((1 : Nat) : Int))))) rfl rfl (fun _ => x_pickT rfl rfl) ?_
                refine d_if rfl rfl (p := (((2 : Nat) : Int), ((1 : Nat) : Int)) = (((2 : Nat) : Int), ((1 : Nat) : Int))) (fun _ => x_move rfl) (fun h510 => ?_) (fun h510 => ?_)
                ·
                  clear h510
                  refine d_gq (v := .pointer (some ⟨w377.heap.size, 0, none⟩)) (j := 29) (t := 160) rfl rfl rfl rfl (by decide) (fun _ => x_move rfl) ?_
                  refine d_e (by decide) (d_c' rfl (wanted_true (j := 29) (t := 160) rfl rfl (by decide)) (t_call [.pointer (some ⟨w377.heap.size, 0, none⟩)] T.cf25 rfl rfl) (len25 (w377.heap.size) (w377.heap.size) 2 _ _ es3 _ hF505) ?_)
                  rintro _ w511 ⟨rfl, hx512⟩
                  refine ⟨_, rfl, ?_⟩
                  have hB513 := hB502.ext hx512
                  have hB514 := hB503.ext hx512
                  have hB515 := hB504.ext hx512
                  have hF516 := hF505.ext hx512
                  have hE517 : Below w0.heap.size w0 w511 := hx512.e hE506 (Nat.le_refl _)
                  have hz518 := hE517.le
                  have hs519 := hx512.size
                  have hS520 := hS509.trans (hx512.mono hS509.size)
                  refine ⟨fun _ => hS520, ?_⟩
                  refine d_gq (v := .bool (decide (es3.length = 1))) (j := 29) (t := 160) rfl rfl rfl rfl (by decide) (fun _ => x_eqlN rfl rfl) ?_
                  refine d_q (v := .bool (decide (es3.length = 1))) rfl rfl (fun _ => x_pickT rfl rfl) ?_
                  refine d_if rfl rfl (p := es3.length = 1) (fun _ => x_move rfl) (fun h521 => ?_) (fun h521 => ?_)
                  ·
                    clear h521
                    refine d_e (by decide) (d_c' rfl (wanted_true (j := 34) (t := 165) rfl rfl (by decide)) (t_call [] T.cf16 rfl rfl) (works16 _) ?_)
                    rintro _ w522 ⟨rfl, hx523⟩
                    refine ⟨_, rfl, ?_⟩
                    have hB524 := hB513.ext hx523
                    have hB525 := hB514.ext hx523
                    have hB526 := hB515.ext hx523
                    have hF527 := hF516.ext hx523
                    have hE528 : Below w0.heap.size w0 w522 := hx523.e hE517 (Nat.le_refl _)
                    have hz529 := hE528.le
                    have hs530 := hx523.size
                    have hS531 := hS520.trans (hx523.mono hS520.size)
                    refine ⟨fun _ => hS531, ?_⟩
                    refine d_q (v := .bool true) rfl rfl (fun _ => x_pickT rfl rfl) ?_
                    refine d_q (v := .bool true) rfl rfl (fun _ => x_assign rfl) ?_
                    refine d_done ?_
                    refine kn465 _ _ ?_
                    refine ret ?_
                    refine leave1 (P := Try.prog) (fn := Try.f5) (t := 2) (v := .bool true) rfl rfl ?_
                    exact ⟨rfl, hE528⟩
                  ·
                    exact absurd h521 (not_not_intro hl3)
                ·
                  exact absurd h510 (not_not_intro rfl)
              ·
                exact absurd h497 (not_not_intro rfl)
            ·
              exact absurd h486 (not_not_intro rfl)
          ·
            exact absurd h481 (not_not_intro rfl)

end Go.Proofs.Ytgfolockecjlnaa
