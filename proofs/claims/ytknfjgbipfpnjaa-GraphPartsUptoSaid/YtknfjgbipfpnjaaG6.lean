import Derived.Test.YtknfjgbipfpnjaaGN0
namespace Go.Proofs.Ytknfjgbipfpnjaa
open Go.RowKit Go.Eng Go.OrdPure
theorem T.fa65_1 : FA Try.prog 65 1 1 := fun _ _ => by kernel_rfl
theorem T.na62 : NA Try.prog 62 := fun _ => by kernel_rfl
theorem T.fa65_0 : FA Try.prog 65 0 0 := fun _ _ => by kernel_rfl
theorem T.na22 : NA Try.prog 22 := fun _ => by kernel_rfl
theorem T.cf48 : CF Try.prog 48 := fun _ _ => by kernel_rfl
theorem T.sz22 : SZ Try.prog 22 1 := fun _ => by kernel_rfl
theorem T.sl63 : SL Try.prog 63 38 1 24 (.slice none 0 0) := sl_mk Try.underlying63 (by kernel_rfl) rfl (by decide)
theorem T.fa65_2 : FA Try.prog 65 2 2 := fun _ _ => by kernel_rfl
theorem T.sz63 : SZ Try.prog 63 1 := fun _ => by kernel_rfl
theorem T.na63 : NA Try.prog 63 := fun _ => by kernel_rfl
theorem T.na38 : NA Try.prog 38 := fun _ => by kernel_rfl
theorem T.sl38 : SL Try.prog 38 3 1 8 (.int .i64 ((0 : Nat) : Int)) := sl_mk Try.underlying38 (by kernel_rfl) rfl (by decide)
theorem T.sz38 : SZ Try.prog 38 1 := fun _ => by kernel_rfl

theorem ins_perm {α : Type} {c : α → α → Int} (x : α) : ∀ ys : List α, (ins c x ys).Perm (x :: ys)
  | [] => List.Perm.refl _
  | y :: ys => by
    rw [ins]
    split
    · exact List.Perm.refl _
    · exact ((ins_perm x ys).cons y).trans (List.Perm.swap x y ys)
theorem srt_perm {α : Type} {c : α → α → Int} (xs : List α) : (srt c xs).Perm xs := by
  induction xs using Go.OrdPure.rev_ind with
  | h0 => exact List.Perm.refl _
  | h1 xs x ih => rw [srt_snoc]; exact (ins_perm x _).trans ((ih.cons x).trans (List.perm_append_singleton x xs).symm)
theorem srt_SX {K : List ByteArray} (h : K.Nodup) : SX (srt txt K) := by
  have h1 : (srt txt K).Nodup := (srt_perm K).nodup_iff.2 h
  have h2 := srt_rise txt_law K
  unfold Rise at h2
  refine (List.pairwise_and_iff.2 ⟨h2, h1⟩).imp fun {a b} ⟨h3, h4⟩ => ?_
  rcases txt_cases a b with ⟨k, _⟩ | ⟨k, _⟩ | ⟨_, k⟩
  · exact k
  · exact absurd k h4
  · omega
theorem srt_is {K L : List ByteArray} (h : K.Nodup) (hL : SX L) (hm : ∀ s, s ∈ K ↔ s ∈ L) : srt txt K = L := SX.ext (srt_SX h) hL fun z => (srt_mem z K).trans (hm z)
theorem nodup_le {α : Type} [DecidableEq α] : ∀ {K L : List α}, K.Nodup → (∀ s, s ∈ K → s ∈ L) → K.length ≤ L.length
  | [], _, _, _ => Nat.zero_le _
  | x :: K, L, h, hs => by
    obtain ⟨h1, h2⟩ := List.nodup_cons.1 h
    have hx := hs x (by simp)
    have := nodup_le (L := L.erase x) h2 fun s hm => (List.mem_erase_of_ne (by rintro rfl; exact h1 hm)).2 (hs s (List.mem_cons_of_mem _ hm))
    rw [List.length_erase_of_mem hx] at this
    have := List.length_pos_of_mem hx
    simp; omega
theorem wf0 : (Lit.int .i64 0).wf = true := by decide
theorem wfN {i : Nat} (h : i ≤ 9223372036854775807) : (Lit.int .i64 ((i : Nat) : Int)).wf = true := by
  have h1 : IntKind.min .i64 ≤ ((i : Nat) : Int) := Int.le_trans (by decide) (Int.natCast_nonneg i)
  simp [Lit.wf, h1]; omega
theorem zeroI (u : World) : (zeroValue 3).run Try.prog u = .ok (.int .i64 0) u := by kernel_rfl
theorem ORange.sub {P : Program} {k e : TypeId} {w : World} {b r n cnt : Nat} {ks left : ByteArray → Prop} {f : ByteArray → Int} (h : ORange P k e w b r n ks f left cnt) : ∀ s, left s → ks s := by
  obtain ⟨_, _, _, _, _, _, h⟩ := h; exact h
theorem place_succ {N : List ByteArray} (hN : SX N) {i : Nat} (hi : i < N.length) {s : ByteArray} (hs : s ∈ N) : (if s = el N i then ((i : Nat) : Int) else (if ixS N s < i then ((ixS N s : Nat) : Int) else 0)) = if ixS N s < i + 1 then ((ixS N s : Nat) : Int) else 0 := by
  by_cases e : s = el N i
  · subst e; rw [if_pos rfl, ixS_of_el hN hi, if_pos (by omega)]
  · rw [if_neg e]
    have : ixS N s ≠ i := fun h => e (by rw [← h, ixS_el hs])
    by_cases h : ixS N s < i
    · rw [if_pos h, if_pos (by omega)]
    · rw [if_neg h, if_neg (by omega)]
set_option maxHeartbeats 4000000 in
theorem laid35 (xs : List ByteArray) (es : List Edge) (va vb : Value) (w0 : World) (ha : Src w0.heap va xs.length 1 (flat enS xs)) (hb : Src w0.heap vb es.length 3 (flat enE es)) (hfx : FitS xs) (hfe : FitE es) (hn : xs.length + 2 * es.length ≤ 2097152) : Calls Try.prog 35 #[va, vb] w0 fun e w' => ∃ g D, e = .returned (.pointer (some ⟨g, 0, none⟩)) ∧ Ext w0 w' ∧ D.lo = w0.heap.size ∧ Net w' g D (nodesL xs es) es := by
  have hE0 : Below w0.heap.size w0 w0 := Below.refl _ _
  have hz0 := hE0.le
  obtain ⟨a, ca, rfl, hca, hca1⟩ := ha.form
  obtain ⟨b, cb, rfl, hcb, hcb1⟩ := hb.form
  refine enter Try.func35 rfl 139 Try.ntmps35 rfl ?_
  refine seqK fun Q1 kn2 kr3 ke4 => ?_
  refine region ?_
  refine st_q (v := .pointer none) (x_assign rfl) ?_
  refine st_nil ?_
  refine kn2 _ _ ?_
  refine seqK fun Q5 kn6 kr7 ke8 => ?_
  refine region ?_
  refine st_e (e_makeMap ?_)
  intro w9 hA10
  have hx11 := hA10.ext
  have hs13 := hA10.size
  have hM12 := OMap.al (P := Try.prog) (k := 9) (e := 3) hA10
  have hE14 : Below w0.heap.size w0 w9 := hx11.e hE0 (Nat.le_refl _)
  have hz15 := hE14.le
  have hs16 := hx11.size
  refine st_q (v := .agg #[.slice none 0 0, .map (some w0.heap.size), .slice none 0 0]) (x_build (fun _ => by kernel_rfl)) ?_
  refine st_e (e_box (v := .agg #[.slice none 0 0, .map (some w0.heap.size), .slice none 0 0]) rfl ?_)
  intro w17 hA18
  have hx19 := hA18.ext
  have hs20 := hA18.size
  have hB21 : Blk w17.heap w9.heap.size [.slice none 0 0, .map (some w0.heap.size), .slice none 0 0] 65 := hA18.new
  have hF22 := OMap.ext hM12 hx19
  have hE23 : Below w0.heap.size w0 w17 := hx19.e hE14 (Nat.le_refl _)
  have hz24 := hE23.le
  have hs25 := hx19.size
  have hlo_m : w0.heap.size ≤ w0.heap.size := by omega
  have hlo_g : w0.heap.size ≤ w9.heap.size := by omega
  refine st_q (v := .pointer (some ⟨w9.heap.size, 0, none⟩)) (x_assign rfl) ?_
  refine st_nil ?_
  refine kn6 _ _ ?_
  refine seqK fun Q26 kn27 kr28 ke29 => ?_
  refine seqK fun Q30 kn31 kr32 ke33 => ?_
  refine region ?_
  refine st_q (v := .slice a xs.length ca) (x_move rfl) ?_
  refine st_q (v := .int .i64 ((xs.length : Nat) : Int)) (x_lenSl rfl Try.underlying22 rfl) ?_
  refine st_q (v := .int .i64 ((0 : Nat) : Int)) (x_move rfl) ?_
  refine st_nil ?_
  refine kn31 _ _ ?_
  refine blockK fun Q34 kn35 kr36 kx37 kb38 => ?_
  refine loopK (α := Nat) (fun x => [(1, .slice b es.length cb), (5, .pointer (some ⟨w9.heap.size, 0, none⟩)), (19, .slice a xs.length ca), (20, .int .i64 ((xs.length : Nat) : Int)), (21, .int .i64 ((x : Nat) : Int))]) (fun x w39 => Below w0.heap.size w0 w39 ∧ x ≤ xs.length ∧ Blk w39.heap w9.heap.size [.slice none 0 0, .map (some w0.heap.size), .slice none 0 0] 65 ∧ OMap Try.prog 9 3 w39 w0.heap.size x (MetN xs x) (fun _ => 0)) (fun x => xs.length - x) (0) ⟨rfl, rfl, rfl, rfl, rfl, trivial⟩ ?_ ?_
  ·
    refine ⟨hE23, ?_⟩
    try dsimp only
    exact ⟨Nat.zero_le _, hB21, OMap.congr hF22 (fun s => ⟨False.elim, fun ⟨_, hj, _⟩ => absurd hj (by omega)⟩) (fun _ h => h.elim) (Nat.le_refl _)⟩
  ·
    rintro τ40 i w41 ⟨hx42, ⟨hi, hB, hM⟩⟩
    try dsimp only at hi hB hM
    have hz43 := hx42.le
    intro Q44 kn45 kr46 ke47
    refine seqK fun Q48 kn49 kr50 ke51 => ?_
    refine region ?_
    refine st_q (v := .bool (decide (i < xs.length))) (x_lssN rfl rfl) ?_
    refine st_nil ?_
    refine kn49 _ _ ?_
    refine seqK fun Q52 kn53 kr54 ke55 => ?_
    refine cnd (p := i < xs.length) rfl (fun h56 => ?_) (fun h56 => ?_)
    ·
      refine skip ?_
      refine kn53 _ _ ?_
      refine seqK fun Q57 kn58 kr59 ke60 => ?_
      refine blockK fun Q61 kn62 kr63 kx64 kb65 => ?_
      refine seqK fun Q66 kn67 kr68 ke69 => ?_
      refine region ?_
      obtain ⟨b70, o71, ha72, hc73⟩ := ha.at (by omega)
      refine st_q (v := .pointer (some ⟨b70, o71 + i * 1, none⟩)) (x_index' T.sl22 rfl ha72 rfl (by omega)) ?_
      refine st_q (v := .string (el xs i)) (x_load1 T.na9 rfl ((hc73.below hx42).elem enS_len (i := i) (by omega))) ?_
      refine st_q (v := .string (el xs i)) (x_assign rfl) ?_
      refine st_nil ?_
      refine kn67 _ _ ?_
      refine region ?_
      refine st_q (v := .pointer (some ⟨w9.heap.size, 0, none⟩)) (x_move rfl) ?_
      refine st_q (v := .pointer (some ⟨w9.heap.size, 0, none⟩)) (x_nilCheck rfl) ?_
      refine st_q (v := .pointer (some ⟨w9.heap.size, 1, none⟩)) (x_field (o := 0) T.fa65_1 rfl) ?_
      refine st_q (v := .map (some w0.heap.size)) (x_load1 T.na62 rfl (hB.one 1 rfl)) ?_
      refine st_q (v := .string (el xs i)) (x_move rfl) ?_
      refine st_s (e_mapUpdate rfl rfl rfl Try.underlying9 Try.underlying3 Try.underlying62 hM (hfx _ (el_memS (by omega))) wf0 (by unfold maxLen; omega) ?_)
      intro w74 hM75 hG76
      have hB77 := hB.gk (hG76) (hM.rowk) (by decide)
      have hE78 : Below w0.heap.size w0 w74 := grown_below hG76 hx42 (Nat.le_refl _) (fun b e => by have e := Option.some.inj e; have := hlo_m; omega)
      have hz79 := hE78.le
      have hs80 := hG76.size
      refine st_nil ?_
      refine kn62 _ _ ?_
      refine kn58 _ _ ?_
      refine region ?_
      refine st_q (v := .int .i64 (((i + 1) : Nat) : Int)) (x_addN rfl rfl (by omega)) ?_
      refine st_q (v := .int .i64 (((i + 1) : Nat) : Int)) (x_move rfl) ?_
      refine st_nil ?_
      refine kn45 _ ((i + 1)) _ ⟨rfl, rfl, rfl, rfl, rfl, trivial⟩ ⟨hE78, ?_⟩ ?_
      ·
        try dsimp only
        exact ⟨by omega, hB77, OMap.congr hM75 (fun s => MetN_succ) (fun _ _ => by split <;> rfl) (Nat.le_refl _)⟩
      ·
        (try dsimp only); omega
    ·
      refine exit ?_
      refine ke55 _ _ _ ?_
      refine ke47 _ _ _ ?_
      refine kb38 _ _ ?_
      refine kn27 _ _ ?_
      refine seqK fun Q81 kn82 kr83 ke84 => ?_
      refine seqK fun Q85 kn86 kr87 ke88 => ?_
      refine region ?_
      refine st_q (v := .slice b es.length cb) (x_move rfl) ?_
      refine st_q (v := .int .i64 ((es.length : Nat) : Int)) (x_lenSl rfl Try.underlying23 rfl) ?_
      refine st_q (v := .int .i64 ((0 : Nat) : Int)) (x_move rfl) ?_
      refine st_nil ?_
      refine kn86 _ _ ?_
      refine blockK fun Q89 kn90 kr91 kx92 kb93 => ?_
      refine loopK (α := Nat) (fun x => [(1, .slice b es.length cb), (5, .pointer (some ⟨w9.heap.size, 0, none⟩)), (31, .slice b es.length cb), (32, .int .i64 ((es.length : Nat) : Int)), (33, .int .i64 ((x : Nat) : Int))]) (fun x w94 => Below w0.heap.size w0 w94 ∧ x ≤ es.length ∧ Blk w94.heap w9.heap.size [.slice none 0 0, .map (some w0.heap.size), .slice none 0 0] 65 ∧ OMap Try.prog 9 3 w94 w0.heap.size (xs.length + 2 * x) (MetE xs es x) (fun _ => 0)) (fun x => es.length - x) (0) ⟨rfl, rfl, rfl, rfl, rfl, trivial⟩ ?_ ?_
      ·
        refine ⟨hx42, ?_⟩
        try dsimp only
        obtain rfl : i = xs.length := by omega
        exact ⟨Nat.zero_le _, hB, OMap.congr hM (fun s => MetE_zero) (fun _ _ => rfl) (by omega)⟩
      ·
        rintro τ95 i w96 ⟨hx97, ⟨hi, hB, hM⟩⟩
        try dsimp only at hi hB hM
        have hz98 := hx97.le
        intro Q99 kn100 kr101 ke102
        have hml := hM.lt
        have hgl := hB.lt
        refine seqK fun Q103 kn104 kr105 ke106 => ?_
        refine region ?_
        refine st_q (v := .bool (decide (i < es.length))) (x_lssN rfl rfl) ?_
        refine st_nil ?_
        refine kn104 _ _ ?_
        refine seqK fun Q107 kn108 kr109 ke110 => ?_
        refine cnd (p := i < es.length) rfl (fun h111 => ?_) (fun h111 => ?_)
        ·
          refine skip ?_
          refine kn108 _ _ ?_
          refine seqK fun Q112 kn113 kr114 ke115 => ?_
          refine blockK fun Q116 kn117 kr118 kx119 kb120 => ?_
          refine seqK fun Q121 kn122 kr123 ke124 => ?_
          refine region ?_
          obtain ⟨b125, o126, ha127, hc128⟩ := hb.at (by omega)
          refine st_q (v := .pointer (some ⟨b125, o126 + i * 3, none⟩)) (x_index' T.sl23 rfl ha127 rfl (by omega)) ?_
          refine st_q (v := .agg #[.string ((el es i).1), .string ((el es i).2.1), .bool ((el es i).2.2)]) (x_loadA [.string ((el es i).1), .string ((el es i).2.1), .bool ((el es i).2.2)] T.ag47 rfl ((hc128.below hx97).elem enE_len (i := i) (by omega))) ?_
          refine st_e (e_alloc T.zv47 ?_)
          intro w129 hA130
          have hx131 := hA130.ext
          have hs132 := hA130.size
          have hB133 : Blk w129.heap w96.heap.size [.string ByteArray.empty, .string ByteArray.empty, .bool false] 47 := hA130.new
          have hB134 := hB.ext hx131
          have hF135 := OMap.ext hM hx131
          have hE136 : Below w0.heap.size w0 w129 := hx131.e hx97 (Nat.le_refl _)
          have hz137 := hE136.le
          have hs138 := hx131.size
          refine st_s (e_st (v := .agg #[.string ((el es i).1), .string ((el es i).2.1), .bool ((el es i).2.2)]) T.sz47 rfl rfl hB133 (by simp [Value.cells]) (by rfl) ?_)
          intro w139 hP140
          have hB141 : Blk w139.heap w96.heap.size [.string ((el es i).1), .string ((el es i).2.1), .bool ((el es i).2.2)] 47 := hP140.new
          have hs142 := hP140.size
          have hB143 := hB134.gk (hP140.grownBy) (hB133.rowk) (by decide)
          have hF144 := OMap.gk hF135 (hP140.grownBy) (hB133.rowk) (by decide)
          have hE145 : Below w0.heap.size w0 w139 := hP140.below hE136 (by omega)
          have hz146 := hE145.le
          refine st_nil ?_
          refine kn122 _ _ ?_
          refine regionM1 (fun k => k = w0.heap.size) [3, 5, 9, 11] [0, 1, 2, 3, 4, 5, 6, 7, 8, 9, 10, 11, 13, 16] (.one 0 (.one 1 (.one 2 (.one 3 (.one 4 (.one 5 (.one 6 (.one 7 (.one 8 (.one 9 (.one 10 (.one 11 (.one 12 (.one 13 (.one 14 (.one 15 (.one 16 (.one 17 .done)))))))))))))))))) (by kernel_rfl) (by kernel_rfl) ?_
          intro w147 hx148 hs149
          have hB150 := hB143.ext hx148
          have hB151 := hB141.ext hx148
          have hF152 := OMap.ext hF144 hx148
          have hE153 : Below w0.heap.size w0 w147 := hx148.e hE145 (Nat.le_refl _)
          have hz154 := hE153.le
          have hs155 := hx148.size
          have hS156 : Mod (fun k => k = w0.heap.size) w147 w147 := Mod.refl _ _
          refine d_q (v := .pointer (some ⟨w9.heap.size, 0, none⟩)) rfl rfl (fun _ => x_move rfl) ?_
          refine d_q (v := .pointer (some ⟨w9.heap.size, 0, none⟩)) rfl rfl (fun _ => x_nilCheck rfl) ?_
          refine d_q (v := .pointer (some ⟨w9.heap.size, 1, none⟩)) rfl rfl (fun _ => x_field (o := 0) T.fa65_1 rfl) ?_
          refine d_l (v := .map (some w0.heap.size)) rfl rfl rfl (fun v158 hw157 => x_load1 T.na62 rfl (Cells.keep (hB150.one 1 rfl) (hw157.block _ (Cells.lt (hB150.one 1 rfl)) (fun e => by have e : w9.heap.size = w0.heap.size := e; omega)))) ?_
          refine d_q (v := .pointer (some ⟨w96.heap.size, 0, none⟩)) rfl rfl (fun _ => x_field (o := 0) T.fa47_0 rfl) ?_
          refine d_l (v := .string ((el es i).1)) rfl rfl rfl (fun v160 hw159 => x_load1 T.na9 rfl (Cells.keep (hB151.one 0 rfl) (hw159.block _ (Cells.lt (hB151.one 0 rfl)) (fun e => by have e : w96.heap.size = w0.heap.size := e; omega)))) ?_
          refine d_q (v := .pointer (some ⟨w9.heap.size, 0, none⟩)) rfl rfl (fun _ => x_move rfl) ?_
          refine d_q (v := .pointer (some ⟨w9.heap.size, 0, none⟩)) rfl rfl (fun _ => x_nilCheck rfl) ?_
          refine d_q (v := .pointer (some ⟨w9.heap.size, 1, none⟩)) rfl rfl (fun _ => x_field (o := 0) T.fa65_1 rfl) ?_
          refine d_l (v := .map (some w0.heap.size)) rfl rfl rfl (fun v162 hw161 => x_load1 T.na62 rfl (Cells.keep (hB150.one 1 rfl) (hw161.block _ (Cells.lt (hB150.one 1 rfl)) (fun e => by have e : w9.heap.size = w0.heap.size := e; omega)))) ?_
          refine d_q (v := .pointer (some ⟨w96.heap.size, 1, none⟩)) rfl rfl (fun _ => x_field (o := 0) T.fa47_1 rfl) ?_
          refine d_l (v := .string ((el es i).2.1)) rfl rfl rfl (fun v164 hw163 => x_load1 T.na9 rfl (Cells.keep (hB151.one 1 rfl) (hw163.block _ (Cells.lt (hB151.one 1 rfl)) (fun e => by have e : w96.heap.size = w0.heap.size := e; omega)))) ?_
          refine d_e (by decide) (d_e' rfl rfl (e_mapEntry rfl rfl Try.underlying9 Try.underlying3 Try.underlying62 zeroI hF152 (hfe _ (el_memE (by omega))).1 (by unfold maxLen; omega) ?_))
          intro v165 st166 w167 hG168 hP169
          have hB170 := hB150.gk (hG168) (hF152.rowk) (by decide)
          have hB171 := hB151.gk (hG168) (hF152.rowk) (by decide)
          have hE172 : Below w0.heap.size w0 w167 := grown_below hG168 hE153 (Nat.le_refl _) (fun b e => by have e := Option.some.inj e; have := hlo_m; omega)
          have hz173 := hE172.le
          have hs174 := hG168.size
          have hS175 := hS156.grown hG168 (fun b e => .inl (Option.some.inj e).symm)
          refine ⟨fun _ => hS175, ?_⟩
          refine d_q (v := (goInt st166)) rfl rfl (fun _ => x_extract rfl rfl) ?_
          refine d_e (by decide) (d_s' rfl rfl (e_entryStore rfl rfl rfl hP169 wf0 ?_))
          intro w176 hM177 hG178
          have hB179 := hB170.gk (hG178) (hP169.rowk) (by decide)
          have hB180 := hB171.gk (hG178) (hP169.rowk) (by decide)
          have hE181 : Below w0.heap.size w0 w176 := grown_below hG178 hE172 (Nat.le_refl _) (fun b e => by have e := Option.some.inj e; have := hlo_m; omega)
          have hz182 := hE181.le
          have hs183 := hG178.size
          have hS184 := hS175.grown hG178 (fun b e => .inl (Option.some.inj e).symm)
          refine ⟨fun _ => hS184, ?_⟩
          refine d_e (by decide) (d_e' rfl rfl (e_mapEntry rfl rfl Try.underlying9 Try.underlying3 Try.underlying62 zeroI hM177 (hfe _ (el_memE (by omega))).2 (by unfold maxLen; omega) ?_))
          intro v185 st186 w187 hG188 hP189
          have hB190 := hB179.gk (hG188) (hM177.rowk) (by decide)
          have hB191 := hB180.gk (hG188) (hM177.rowk) (by decide)
          have hE192 : Below w0.heap.size w0 w187 := grown_below hG188 hE181 (Nat.le_refl _) (fun b e => by have e := Option.some.inj e; have := hlo_m; omega)
          have hz193 := hE192.le
          have hs194 := hG188.size
          have hS195 := hS184.grown hG188 (fun b e => .inl (Option.some.inj e).symm)
          refine ⟨fun _ => hS195, ?_⟩
          refine d_q (v := (goInt st186)) rfl rfl (fun _ => x_extract rfl rfl) ?_
          refine d_e (by decide) (d_s' rfl rfl (e_entryStore rfl rfl rfl hP189 wf0 ?_))
          intro w196 hM197 hG198
          have hB199 := hB190.gk (hG198) (hP189.rowk) (by decide)
          have hB200 := hB191.gk (hG198) (hP189.rowk) (by decide)
          have hE201 : Below w0.heap.size w0 w196 := grown_below hG198 hE192 (Nat.le_refl _) (fun b e => by have e := Option.some.inj e; have := hlo_m; omega)
          have hz202 := hE201.le
          have hs203 := hG198.size
          have hS204 := hS195.grown hG198 (fun b e => .inl (Option.some.inj e).symm)
          refine ⟨fun _ => hS204, ?_⟩
          refine d_done ?_
          refine kn117 _ _ ?_
          refine kn113 _ _ ?_
          refine region ?_
          refine st_q (v := .int .i64 (((i + 1) : Nat) : Int)) (x_addN rfl rfl (by omega)) ?_
          refine st_q (v := .int .i64 (((i + 1) : Nat) : Int)) (x_move rfl) ?_
          refine st_nil ?_
          refine kn100 _ ((i + 1)) _ ⟨rfl, rfl, rfl, rfl, rfl, trivial⟩ ⟨hE201, ?_⟩ ?_
          ·
            try dsimp only
            exact ⟨by omega, hB199, OMap.congr hM197 (fun s => MetE_succ) (fun _ _ => by split <;> first | rfl | (split <;> rfl)) (by omega)⟩
          ·
            (try dsimp only); omega
        ·
          refine exit ?_
          refine ke110 _ _ _ ?_
          refine ke102 _ _ _ ?_
          refine kb93 _ _ ?_
          refine kn82 _ _ ?_
          refine seqK fun Q205 kn206 kr207 ke208 => ?_
          refine seqK fun Q209 kn210 kr211 ke212 => ?_
          refine region ?_
          refine st_q (v := .pointer (some ⟨w9.heap.size, 0, none⟩)) (x_move rfl) ?_
          refine st_q (v := .pointer (some ⟨w9.heap.size, 0, none⟩)) (x_nilCheck rfl) ?_
          refine st_q (v := .pointer (some ⟨w9.heap.size, 1, none⟩)) (x_field (o := 0) T.fa65_1 rfl) ?_
          refine st_q (v := .map (some w0.heap.size)) (x_load1 T.na62 rfl (hB.one 1 rfl)) ?_
          have e0 : i = es.length := by omega
          have hksfit : ∀ s, MetE xs es es.length s → s.size ≤ maxLen := fun s h => nodesL_fit hfx hfe s (MetE_mem.1 h)
          have hM213 : OMap Try.prog 9 3 w96 w0.heap.size (xs.length + 2 * es.length) (MetE xs es es.length) (fun _ => 0) := e0 ▸ hM
          have hlo_r0 : w0.heap.size ≤ w96.heap.size := by omega
          refine st_e (e_range rfl Try.underlying9 Try.underlying62 hM213 hksfit ?_)
          intro w214 cnt215 hRg216 hG217 hs218
          have hx219 := grown_ext hG217
          have hB220 := hB.ext hx219
          have hE221 : Below w0.heap.size w0 w214 := hx219.e hx97 (Nat.le_refl _)
          have hz222 := hE221.le
          have hs223 := hx219.size
          refine st_nil ?_
          refine kn210 _ _ ?_
          refine blockK fun Q224 kn225 kr226 kx227 kb228 => ?_
          refine loopK (α := (Option Addr) × Nat × (List ByteArray) × (ByteArray → Prop) × Nat) (fun x => [(1, .slice b es.length cb), (5, .pointer (some ⟨w9.heap.size, 0, none⟩)), (58, .pointer (some ⟨w96.heap.size, 0, none⟩))]) (fun x w229 => Below w0.heap.size w0 w229 ∧ Blk w229.heap w9.heap.size [.slice x.1 x.2.2.1.length x.2.1, .map (some w0.heap.size), .slice none 0 0] 65 ∧ Own w229.heap w0.heap.size 9 1 (.slice x.1 x.2.2.1.length x.2.1) x.2.2.1.length (flat enS x.2.2.1) ∧ ORange Try.prog 9 3 w229 w0.heap.size w96.heap.size (xs.length + 2 * es.length) (MetE xs es es.length) (fun _ => 0) x.2.2.2.1 x.2.2.2.2 ∧ x.2.2.1.Nodup ∧ ∀ s, s ∈ x.2.2.1 ↔ MetE xs es es.length s ∧ ¬ x.2.2.2.1 s) (fun x => x.2.2.2.2) (none, 0, [], (MetE xs es es.length), cnt215) ⟨rfl, rfl, rfl, trivial⟩ ?_ ?_
          ·
            refine ⟨hE221, ?_⟩
            try dsimp only
            exact ⟨hB220, Own.nil _ _ _ _, hRg216, List.nodup_nil, fun s => ⟨fun h => absurd h (by simp), fun ⟨h1, h2⟩ => absurd h1 h2⟩⟩
          ·
            rintro τ230 ⟨na, nc, K, left, cnt⟩ w231 ⟨hx232, ⟨hB, hO, hRg, hNd, hK⟩⟩
            try dsimp only at hB hO hRg hNd hK
            have hz233 := hx232.le
            intro Q234 kn235 kr236 ke237
            have hlo_r : w0.heap.size ≤ w96.heap.size := hlo_r0
            have hRg_ks : ∀ s, left s → MetE xs es es.length s := ORange.sub hRg
            have hKle : K.length ≤ (xs.length + 2 * es.length) := Nat.le_trans (nodup_le (L := nodesL xs es) hNd fun s h => MetE_mem.1 ((hK s).1 h).1) (nodesL_len xs es)
            refine seqK fun Q238 kn239 kr240 ke241 => ?_
            refine region ?_
            refine st_e (e_next rfl Try.underlying9 Try.underlying3 hRg hksfit ?_ ?_)
            ·
              intro hnone242
              refine st_q (v := .bool false) (x_extract rfl rfl) ?_
              refine st_nil ?_
              refine kn239 _ _ ?_
              refine seqK fun Q243 kn244 kr245 ke246 => ?_
              refine cndF rfl ?_
              refine exit ?_
              refine ke246 _ _ _ ?_
              refine ke237 _ _ _ ?_
              refine kb228 _ _ ?_
              refine kn206 _ _ ?_
              refine seqK fun Q247 kn248 kr249 ke250 => ?_
              refine region ?_
              refine st_q (v := .pointer (some ⟨w9.heap.size, 0, none⟩)) (x_move rfl) ?_
              refine st_q (v := .pointer (some ⟨w9.heap.size, 0, none⟩)) (x_move rfl) ?_
              refine st_q (v := .pointer (some ⟨w9.heap.size, 0, none⟩)) (x_nilCheck rfl) ?_
              refine st_q (v := .pointer (some ⟨w9.heap.size, 0, none⟩)) (x_field (o := 0) T.fa65_0 rfl) ?_
              refine st_q (v := .slice na K.length nc) (x_load1 T.na22 rfl (hB.one 0 rfl)) ?_
              have hSrt : srt txt K = (nodesL xs es) := srt_is hNd (nodesL_SX xs es) (fun s => (hK s).trans ⟨fun h => MetE_mem.1 h.1, fun h => ⟨MetE_mem.2 h, hnone242 s⟩⟩)
              have hLen : K.length = (nodesL xs es).length := by rw [← hSrt, srt_length]
              refine st_c (t_call [.slice na K.length nc, .func (.func 39) #[] #[]] T.cf48 rfl rfl) (sort48 39 txt T.cf39 cmp39 txt_law _ told39 K _ _ hO.src (by omega)) ?_
              rintro _ w251 ⟨v253, rfl, hx252, hO254⟩
              rw [hSrt, hLen] at hO254
              refine ⟨_, rfl, ?_⟩
              have hB255 := hB.ext hx252
              have hF256 := ORange.ext hRg hx252
              have hE257 : Below w0.heap.size w0 w251 := hx252.e hx232 (Nat.le_refl _)
              have hz258 := hE257.le
              have hs259 := hx252.size
              obtain ⟨a260, c261, rfl, hm262, hm263⟩ := hO254.src.form
              refine st_q (v := .pointer (some ⟨w9.heap.size, 0, none⟩)) (x_nilCheck rfl) ?_
              refine st_q (v := .pointer (some ⟨w9.heap.size, 0, none⟩)) (x_field (o := 0) T.fa65_0 rfl) ?_
              refine st_s (e_st (v := .slice a260 ((nodesL xs es).length) c261) T.sz22 rfl rfl hB255 (by simp [Value.cells]) (by rfl) ?_)
              intro w264 hP265
              have hB266 : Blk w264.heap w9.heap.size [.slice a260 ((nodesL xs es).length) c261, .map (some w0.heap.size), .slice none 0 0] 65 := hP265.new
              have hs267 := hP265.size
              have hF268 := ORange.gk hF256 (hP265.grownBy) (hB255.rowk) (by decide) (by decide)
              have hF269 := hO254.gk (hP265.grownBy) (hB255.rowk) (by decide)
              have hE270 : Below w0.heap.size w0 w264 := hP265.below hE257 (by omega)
              have hz271 := hE270.le
              refine st_nil ?_
              refine kn248 _ _ ?_
              refine seqK fun Q272 kn273 kr274 ke275 => ?_
              refine seqK fun Q276 kn277 kr278 ke279 => ?_
              refine region ?_
              refine st_q (v := .pointer (some ⟨w9.heap.size, 0, none⟩)) (x_move rfl) ?_
              refine st_q (v := .pointer (some ⟨w9.heap.size, 0, none⟩)) (x_nilCheck rfl) ?_
              refine st_q (v := .pointer (some ⟨w9.heap.size, 0, none⟩)) (x_field (o := 0) T.fa65_0 rfl) ?_
              refine st_q (v := .slice a260 ((nodesL xs es).length) c261) (x_load1 T.na22 rfl (hB266.one 0 rfl)) ?_
              refine st_q (v := .int .i64 (((nodesL xs es).length : Nat) : Int)) (x_lenSl rfl Try.underlying22 rfl) ?_
              refine st_q (v := .int .i64 ((0 : Nat) : Int)) (x_move rfl) ?_
              refine st_nil ?_
              refine kn277 _ _ ?_
              refine blockK fun Q280 kn281 kr282 kx283 kb284 => ?_
              refine loopK (α := Nat) (fun x => [(1, .slice b es.length cb), (5, .pointer (some ⟨w9.heap.size, 0, none⟩)), (84, .slice a260 ((nodesL xs es).length) c261), (85, .int .i64 (((nodesL xs es).length : Nat) : Int)), (86, .int .i64 ((x : Nat) : Int))]) (fun x w285 => Below w0.heap.size w0 w285 ∧ x ≤ (nodesL xs es).length ∧ Blk w285.heap w9.heap.size [.slice a260 ((nodesL xs es).length) c261, .map (some w0.heap.size), .slice none 0 0] 65 ∧ Own w285.heap w0.heap.size 9 1 (.slice a260 ((nodesL xs es).length) c261) (nodesL xs es).length (flat enS (nodesL xs es)) ∧ OMap Try.prog 9 3 w285 w0.heap.size ((xs.length + 2 * es.length) + x) (· ∈ (nodesL xs es)) (fun s => if ixS (nodesL xs es) s < x then ((ixS (nodesL xs es) s : Nat) : Int) else 0)) (fun x => (nodesL xs es).length - x) (0) ⟨rfl, rfl, rfl, rfl, rfl, trivial⟩ ?_ ?_
              ·
                refine ⟨hE270, ?_⟩
                try dsimp only
                exact ⟨Nat.zero_le _, hB266, hF269.weak (by omega), OMap.congr (ORange.map hF268) (fun s => MetE_mem) (fun s _ => by rw [if_neg (Nat.not_lt_zero _)]) (by omega)⟩
              ·
                rintro τ286 i w287 ⟨hx288, ⟨hi, hB, hO, hM⟩⟩
                try dsimp only at hi hB hO hM
                have hz289 := hx288.le
                intro Q290 kn291 kr292 ke293
                refine seqK fun Q294 kn295 kr296 ke297 => ?_
                refine region ?_
                refine st_q (v := .bool (decide (i < ((nodesL xs es).length)))) (x_lssN rfl rfl) ?_
                refine st_nil ?_
                refine kn295 _ _ ?_
                refine seqK fun Q298 kn299 kr300 ke301 => ?_
                refine cnd (p := i < ((nodesL xs es).length)) rfl (fun h302 => ?_) (fun h302 => ?_)
                ·
                  refine skip ?_
                  refine kn299 _ _ ?_
                  refine seqK fun Q303 kn304 kr305 ke306 => ?_
                  refine blockK fun Q307 kn308 kr309 kx310 kb311 => ?_
                  refine seqK fun Q312 kn313 kr314 ke315 => ?_
                  refine region ?_
                  refine st_q (v := .int .i64 ((i : Nat) : Int)) (x_move rfl) ?_
                  obtain ⟨b316, o317, ha318, hc319⟩ := hO.src.at (by omega)
                  refine st_q (v := .pointer (some ⟨b316, o317 + i * 1, none⟩)) (x_index' T.sl22 rfl ha318 rfl (by omega)) ?_
                  refine st_q (v := .string (el (nodesL xs es) i)) (x_load1 T.na9 rfl (hc319.elem enS_len (i := i) (by omega))) ?_
                  refine st_q (v := .int .i64 ((i : Nat) : Int)) (x_assign rfl) ?_
                  refine st_q (v := .string (el (nodesL xs es) i)) (x_assign rfl) ?_
                  refine st_nil ?_
                  refine kn313 _ _ ?_
                  refine region ?_
                  refine st_q (v := .pointer (some ⟨w9.heap.size, 0, none⟩)) (x_move rfl) ?_
                  refine st_q (v := .pointer (some ⟨w9.heap.size, 0, none⟩)) (x_nilCheck rfl) ?_
                  refine st_q (v := .pointer (some ⟨w9.heap.size, 1, none⟩)) (x_field (o := 0) T.fa65_1 rfl) ?_
                  refine st_q (v := .map (some w0.heap.size)) (x_load1 T.na62 rfl (hB.one 1 rfl)) ?_
                  refine st_q (v := .string (el (nodesL xs es) i)) (x_move rfl) ?_
                  refine st_q (v := .int .i64 ((i : Nat) : Int)) (x_move rfl) ?_
                  refine st_s (e_mapUpdate rfl rfl rfl Try.underlying9 Try.underlying3 Try.underlying62 hM (nodesL_fit hfx hfe _ (el_memS (by omega))) (wfN (by omega)) (by unfold maxLen; omega) ?_)
                  intro w320 hM321 hG322
                  have hB323 := hB.gk (hG322) (hM.rowk) (by decide)
                  have hF324 := hO.gk (hG322) (hM.rowk) (by decide)
                  have hE326 : Below w0.heap.size w0 w320 := grown_below hG322 hx288 (Nat.le_refl _) (fun b e => by have e := Option.some.inj e; have := hlo_m; omega)
                  have hz327 := hE326.le
                  have hs328 := hG322.size
                  refine st_nil ?_
                  refine kn308 _ _ ?_
                  refine kn304 _ _ ?_
                  refine region ?_
                  refine st_q (v := .int .i64 (((i + 1) : Nat) : Int)) (x_addN rfl rfl (by omega)) ?_
                  refine st_q (v := .int .i64 (((i + 1) : Nat) : Int)) (x_move rfl) ?_
                  refine st_nil ?_
                  refine kn291 _ ((i + 1)) _ ⟨rfl, rfl, rfl, rfl, rfl, trivial⟩ ⟨hE326, ?_⟩ ?_
                  ·
                    try dsimp only
                    exact ⟨by omega, hB323, hF324, OMap.congr hM321 (fun s => ⟨fun h => h.elim (fun e => e ▸ el_memS (by omega)) id, .inr⟩) (fun s h => place_succ (nodesL_SX xs es) (by omega) (h.elim (fun e => e ▸ el_memS (by omega)) id)) (by omega)⟩
                  ·
                    (try dsimp only); omega
                ·
                  refine exit ?_
                  refine ke301 _ _ _ ?_
                  refine ke293 _ _ _ ?_
                  refine kb284 _ _ ?_
                  refine kn273 _ _ ?_
                  refine seqK fun Q329 kn330 kr331 ke332 => ?_
                  refine region ?_
                  refine st_q (v := .pointer (some ⟨w9.heap.size, 0, none⟩)) (x_move rfl) ?_
                  refine st_q (v := .pointer (some ⟨w9.heap.size, 0, none⟩)) (x_move rfl) ?_
                  refine st_q (v := .pointer (some ⟨w9.heap.size, 0, none⟩)) (x_nilCheck rfl) ?_
                  refine st_q (v := .pointer (some ⟨w9.heap.size, 0, none⟩)) (x_field (o := 0) T.fa65_0 rfl) ?_
                  refine st_q (v := .slice a260 ((nodesL xs es).length) c261) (x_load1 T.na22 rfl (hB.one 0 rfl)) ?_
                  refine st_q (v := .int .i64 (((nodesL xs es).length : Nat) : Int)) (x_lenSl rfl Try.underlying22 rfl) ?_
                  refine st_e (e_makeSlice T.sl63 rfl rfl (by omega) (by omega) ?_)
                  intro w333 hA334
                  have hx335 := hA334.ext
                  have hs338 := hA334.size
                  have hA334x : Al w287 w333 (.cells (flat enV (List.replicate (nodesL xs es).length (.slice none 0 0))).toArray 38) := by rw [flat_repV]; exact hA334
                  have hO336 := OB.new (lo := w0.heap.size) (k := 1) (c := (nodesL xs es).length) hA334x (by omega) (by rw [flat_length enV_len]; simp) (by omega)
                  have hF337 := Fam.nils (α := Nat) w333.heap w0.heap.size 3 enN (nodesL xs es).length
                  have hB339 := hB.ext hx335
                  have hF340 := OMap.ext hM hx335
                  have hF341 := hO.ext hx335
                  have hE342 : Below w0.heap.size w0 w333 := hx335.e hx288 (Nat.le_refl _)
                  have hz343 := hE342.le
                  have hs344 := hx335.size
                  have hlo_o : w0.heap.size ≤ w287.heap.size := by omega
                  refine st_q (v := .pointer (some ⟨w9.heap.size, 0, none⟩)) (x_nilCheck rfl) ?_
                  refine st_q (v := .pointer (some ⟨w9.heap.size, 2, none⟩)) (x_field (o := 0) T.fa65_2 rfl) ?_
                  refine st_s (e_st (v := .slice ((some ⟨w287.heap.size, 0, none⟩)) ((nodesL xs es).length) ((nodesL xs es).length)) T.sz63 rfl rfl hB339 (by simp [Value.cells]) (by rfl) ?_)
                  intro w345 hP346
                  have hB347 : Blk w345.heap w9.heap.size [.slice a260 ((nodesL xs es).length) c261, .map (some w0.heap.size), .slice ((some ⟨w287.heap.size, 0, none⟩)) ((nodesL xs es).length) ((nodesL xs es).length)] 65 := hP346.new
                  have hs348 := hP346.size
                  have hF349 := OMap.gk hF340 (hP346.grownBy) (hB339.rowk) (by decide)
                  have hF350 := hF341.gk (hP346.grownBy) (hB339.rowk) (by decide)
                  have hF351 := hO336.gk (hP346.grownBy) (hB339.rowk) (by decide)
                  have hF352 := Fam.gk hF337 (hP346.grownBy) (hB339.rowk) (by decide)
                  have hE353 : Below w0.heap.size w0 w345 := hP346.below hE342 (by omega)
                  have hz354 := hE353.le
                  refine st_nil ?_
                  refine kn330 _ _ ?_
                  refine seqK fun Q355 kn356 kr357 ke358 => ?_
                  refine seqK fun Q359 kn360 kr361 ke362 => ?_
                  refine region ?_
                  refine st_q (v := .slice b es.length cb) (x_move rfl) ?_
                  refine st_q (v := .int .i64 ((es.length : Nat) : Int)) (x_lenSl rfl Try.underlying23 rfl) ?_
                  refine st_q (v := .int .i64 ((0 : Nat) : Int)) (x_move rfl) ?_
                  refine st_nil ?_
                  refine kn360 _ _ ?_
                  refine blockK fun Q363 kn364 kr365 kx366 kb367 => ?_
                  refine loopK (α := Nat × (List Value)) (fun x => [(5, .pointer (some ⟨w9.heap.size, 0, none⟩)), (107, .slice b es.length cb), (108, .int .i64 ((es.length : Nat) : Int)), (109, .int .i64 ((x.1 : Nat) : Int))]) (fun x w368 => Below w0.heap.size w0 w368 ∧ x.1 ≤ es.length ∧ x.2.length = (nodesL xs es).length ∧ Blk w368.heap w9.heap.size [.slice a260 ((nodesL xs es).length) c261, .map (some w0.heap.size), .slice ((some ⟨w287.heap.size, 0, none⟩)) ((nodesL xs es).length) ((nodesL xs es).length)] 65 ∧ Own w368.heap w0.heap.size 9 1 (.slice a260 ((nodesL xs es).length) c261) (nodesL xs es).length (flat enS (nodesL xs es)) ∧ OMap Try.prog 9 3 w368 w0.heap.size ((xs.length + 2 * es.length) + (nodesL xs es).length) (· ∈ (nodesL xs es)) (fun s => ((ixS (nodesL xs es) s : Nat) : Int)) ∧ OB w368.heap w0.heap.size 38 1 w287.heap.size (nodesL xs es).length (flat enV x.2) ∧ Fam w368.heap w0.heap.size 3 enN x.2 (rowsU (nodesL xs es) es x.1)) (fun x => es.length - x.1) (0, (List.replicate (nodesL xs es).length (.slice none 0 0))) ⟨rfl, rfl, rfl, rfl, trivial⟩ ?_ ?_
                  ·
                    refine ⟨hE353, ?_⟩
                    try dsimp only
                    obtain rfl : i = (nodesL xs es).length := by omega
                    exact ⟨Nat.zero_le _, by simp, hB347, hF350, OMap.congr hF349 (fun _ => Iff.rfl) (fun s h => if_pos (ixS_lt h)) (by omega), hF351, (rowsU_zero (nodesL xs es) es).symm ▸ hF352⟩
                  ·
                    rintro τ369 ⟨i, vs⟩ w370 ⟨hx371, ⟨hi, hvl, hB, hO, hM, hOb, hF⟩⟩
                    try dsimp only at hi hvl hB hO hM hOb hF
                    have hz372 := hx371.le
                    intro Q373 kn374 kr375 ke376
                    have hl377 := hOb.lo
                    have hl378 := hOb.lt
                    refine seqK fun Q379 kn380 kr381 ke382 => ?_
                    refine region ?_
                    refine st_q (v := .bool (decide (i < es.length))) (x_lssN rfl rfl) ?_
                    refine st_nil ?_
                    refine kn380 _ _ ?_
                    refine seqK fun Q383 kn384 kr385 ke386 => ?_
                    refine cnd (p := i < es.length) rfl (fun h387 => ?_) (fun h387 => ?_)
                    ·
                      refine skip ?_
                      refine kn384 _ _ ?_
                      refine seqK fun Q388 kn389 kr390 ke391 => ?_
                      refine blockK fun Q392 kn393 kr394 kx395 kb396 => ?_
                      refine seqK fun Q397 kn398 kr399 ke400 => ?_
                      refine region ?_
                      refine st_q (v := .int .i64 ((i : Nat) : Int)) (x_move rfl) ?_
                      obtain ⟨b401, o402, ha403, hc404⟩ := hb.at (by omega)
                      refine st_q (v := .pointer (some ⟨b401, o402 + i * 3, none⟩)) (x_index' T.sl23 rfl ha403 rfl (by omega)) ?_
                      refine st_q (v := .agg #[.string ((el es i).1), .string ((el es i).2.1), .bool ((el es i).2.2)]) (x_loadA [.string ((el es i).1), .string ((el es i).2.1), .bool ((el es i).2.2)] T.ag47 rfl ((hc404.below hx371).elem enE_len (i := i) (by omega))) ?_
                      refine st_e (e_alloc T.zv47 ?_)
                      intro w405 hA406
                      have hx407 := hA406.ext
                      have hs408 := hA406.size
                      have hB409 : Blk w405.heap w370.heap.size [.string ByteArray.empty, .string ByteArray.empty, .bool false] 47 := hA406.new
                      have hB410 := hB.ext hx407
                      have hF411 := OMap.ext hM hx407
                      have hF412 := hO.ext hx407
                      have hF413 := hOb.ext hx407
                      have hF414 := Fam.ext hF hx407
                      have hE415 : Below w0.heap.size w0 w405 := hx407.e hx371 (Nat.le_refl _)
                      have hz416 := hE415.le
                      have hs417 := hx407.size
                      refine st_q (v := .int .i64 ((i : Nat) : Int)) (x_assign rfl) ?_
                      refine st_s (e_st (v := .agg #[.string ((el es i).1), .string ((el es i).2.1), .bool ((el es i).2.2)]) T.sz47 rfl rfl hB409 (by simp [Value.cells]) (by rfl) ?_)
                      intro w418 hP419
                      have hB420 : Blk w418.heap w370.heap.size [.string ((el es i).1), .string ((el es i).2.1), .bool ((el es i).2.2)] 47 := hP419.new
                      have hs421 := hP419.size
                      have hB422 := hB410.gk (hP419.grownBy) (hB409.rowk) (by decide)
                      have hF423 := OMap.gk hF411 (hP419.grownBy) (hB409.rowk) (by decide)
                      have hF424 := hF412.gk (hP419.grownBy) (hB409.rowk) (by decide)
                      have hF425 := hF413.gk (hP419.grownBy) (hB409.rowk) (by decide)
                      have hF426 := Fam.gk hF414 (hP419.grownBy) (hB409.rowk) (by decide)
                      have hE427 : Below w0.heap.size w0 w418 := hP419.below hE415 (by omega)
                      have hz428 := hE427.le
                      refine st_nil ?_
                      refine kn398 _ _ ?_
                      refine seqK fun Q429 kn430 kr431 ke432 => ?_
                      refine regionD1 [3, 5, 6] [0, 1, 2, 3, 4, 5, 6, 7] (.one 0 (.one 1 (.one 2 (.one 3 (.one 4 (.one 5 (.one 6 (.one 7 .done)))))))) (by kernel_rfl) (by kernel_rfl) ?_
                      intro w433 hx434 hs435
                      have hB436 := hB422.ext hx434
                      have hB437 := hB420.ext hx434
                      have hF438 := OMap.ext hF423 hx434
                      have hF439 := hF424.ext hx434
                      have hF440 := hF425.ext hx434
                      have hF441 := Fam.ext hF426 hx434
                      have hE442 : Below w0.heap.size w0 w433 := hx434.e hE427 (Nat.le_refl _)
                      have hz443 := hE442.le
                      have hs444 := hx434.size
                      have hS445 : Ext w433 w433 := Below.refl _ _
                      refine d_q (v := .pointer (some ⟨w9.heap.size, 0, none⟩)) rfl rfl (fun _ => x_move rfl) ?_
                      refine d_q (v := .pointer (some ⟨w9.heap.size, 0, none⟩)) rfl rfl (fun _ => x_nilCheck rfl) ?_
                      refine d_q (v := .pointer (some ⟨w9.heap.size, 1, none⟩)) rfl rfl (fun _ => x_field (o := 0) T.fa65_1 rfl) ?_
                      refine d_l (v := .map (some w0.heap.size)) rfl rfl rfl (fun v447 hw446 => x_load1 T.na62 rfl ((hB436.one 1 rfl).ext hw446)) ?_
                      refine d_q (v := .pointer (some ⟨w370.heap.size, 0, none⟩)) rfl rfl (fun _ => x_field (o := 0) T.fa47_0 rfl) ?_
                      refine d_l (v := .string ((el es i).1)) rfl rfl rfl (fun v449 hw448 => x_load1 T.na9 rfl ((hB437.one 0 rfl).ext hw448)) ?_
                      have hin : (el es i).1 ∈ (nodesL xs es) := nodesL_mem.2 (.inr ⟨_, el_memE (by omega), .inl rfl⟩)
                      have hix : (ixS (nodesL xs es) (el es i).1) < (nodesL xs es).length := ixS_lt hin
                      have hrl : (el (rowsU (nodesL xs es) es i) (ixS (nodesL xs es) (el es i).1)).length ≤ i := by rw [rowsU_el hix]; exact rowU_len _ _ _ _
                      refine d_l (v := .int .i64 (((ixS (nodesL xs es) (el es i).1) : Nat) : Int)) rfl rfl rfl (fun v451 hw450 => x_lookupM rfl rfl Try.underlying9 Try.underlying3 Try.underlying62 zeroI (OMap.ext hF438 hw450) (hfe _ (el_memE (by omega))).1 hin) ?_
                      refine d_q (v := .int .i64 (((ixS (nodesL xs es) (el es i).1) : Nat) : Int)) rfl rfl (fun _ => x_assign rfl) ?_
                      refine d_done ?_
                      refine kn430 _ _ ?_
                      refine regionM1 (fun k => (el vs ((ixS (nodesL xs es) (el es i).1))).ownBlock = some k) [3, 8, 11] [0, 1, 2, 3, 4, 5, 6, 7, 8, 9, 10, 11, 12, 15] (.one 0 (.one 1 (.one 2 (.one 3 (.one 4 (.one 5 (.one 6 (.one 7 (.one 8 (.one 9 (.one 10 (.one 11 (.one 12 (.one 13 (.one 14 (.one 15 (.one 16 .done))))))))))))))))) (by kernel_rfl) (by kernel_rfl) ?_
                      intro w452 hx453 hs454
                      have hB455 := hB436.ext hx453
                      have hB456 := hB437.ext hx453
                      have hF457 := OMap.ext hF438 hx453
                      have hF458 := hF439.ext hx453
                      have hF459 := hF440.ext hx453
                      have hF460 := Fam.ext hF441 hx453
                      have hE461 : Below w0.heap.size w0 w452 := hx453.e hE442 (Nat.le_refl _)
                      have hz462 := hE461.le
                      have hs463 := hx453.size
                      have hS464 : Mod (fun k => (el vs ((ixS (nodesL xs es) (el es i).1))).ownBlock = some k) w452 w452 := Mod.refl _ _
                      refine d_q (v := .pointer (some ⟨w9.heap.size, 0, none⟩)) rfl rfl (fun _ => x_move rfl) ?_
                      refine d_q (v := .pointer (some ⟨w9.heap.size, 0, none⟩)) rfl rfl (fun _ => x_nilCheck rfl) ?_
                      refine d_q (v := .pointer (some ⟨w9.heap.size, 2, none⟩)) rfl rfl (fun _ => x_field (o := 0) T.fa65_2 rfl) ?_
                      refine d_l (v := .slice ((some ⟨w287.heap.size, 0, none⟩)) ((nodesL xs es).length) ((nodesL xs es).length)) rfl rfl rfl (fun v466 hw465 => x_load1 T.na63 rfl (Cells.keep (hB455.one 2 rfl) (hw465.block _ (Cells.lt (hB455.one 2 rfl)) (fun e => absurd (((hF460.own ((ixS (nodesL xs es) (el es i).1)) (by have := hF460.len; omega)).kind e).symm.trans hB455.kind) (by decide))))) ?_
                      refine d_q (v := .int .i64 (((ixS (nodesL xs es) (el es i).1) : Nat) : Int)) rfl rfl (fun _ => x_move rfl) ?_
                      refine d_q (v := .pointer (some ⟨w9.heap.size, 0, none⟩)) rfl rfl (fun _ => x_move rfl) ?_
                      refine d_q (v := .pointer (some ⟨w9.heap.size, 0, none⟩)) rfl rfl (fun _ => x_nilCheck rfl) ?_
                      refine d_q (v := .pointer (some ⟨w9.heap.size, 2, none⟩)) rfl rfl (fun _ => x_field (o := 0) T.fa65_2 rfl) ?_
                      refine d_l (v := .slice ((some ⟨w287.heap.size, 0, none⟩)) ((nodesL xs es).length) ((nodesL xs es).length)) rfl rfl rfl (fun v468 hw467 => x_load1 T.na63 rfl (Cells.keep (hB455.one 2 rfl) (hw467.block _ (Cells.lt (hB455.one 2 rfl)) (fun e => absurd (((hF460.own ((ixS (nodesL xs es) (el es i).1)) (by have := hF460.len; omega)).kind e).symm.trans hB455.kind) (by decide))))) ?_
                      refine d_q (v := .int .i64 (((ixS (nodesL xs es) (el es i).1) : Nat) : Int)) rfl rfl (fun _ => x_move rfl) ?_
                      refine d_q (v := .pointer (some ⟨w287.heap.size, 0 + ((ixS (nodesL xs es) (el es i).1)) * 1, none⟩)) rfl rfl (fun _ => x_index T.sl63 rfl rfl (by omega)) ?_
                      refine d_l (v := el vs ((ixS (nodesL xs es) (el es i).1))) rfl rfl rfl (fun v470 hw469 => x_load1 T.na38 rfl (Cells.keep (hF459.cells.elem enV_len (i := (ixS (nodesL xs es) (el es i).1)) (by omega)) (hw469.block _ (Cells.lt (hF459.cells.elem enV_len (i := (ixS (nodesL xs es) (el es i).1)) (by omega))) (fun e => absurd (((hF460.own ((ixS (nodesL xs es) (el es i).1)) (by have := hF460.len; omega)).kind e).symm.trans hF459.kind) (by decide))))) ?_
                      refine d_q (v := .int .i64 ((i : Nat) : Int)) rfl rfl (fun _ => x_move rfl) ?_
                      refine d_e (by decide) (d_e' rfl rfl (e_buildSlice (cs := [.int .i64 ((i : Nat) : Int)]) (e := 3) (fun _ => by kernel_rfl) ?_))
                      intro w471 hA472
                      have hx473 := hA472.ext
                      have hs474 := hA472.size
                      have hB475 : Blk w471.heap w452.heap.size [.int .i64 ((i : Nat) : Int)] 3 := hA472.new
                      have hB476 := hB455.ext hx473
                      have hB477 := hB456.ext hx473
                      have hF478 := OMap.ext hF457 hx473
                      have hF479 := hF458.ext hx473
                      have hF480 := hF459.ext hx473
                      have hF481 := Fam.ext hF460 hx473
                      have hE482 : Below w0.heap.size w0 w471 := hx473.e hE461 (Nat.le_refl _)
                      have hz483 := hE482.le
                      have hs484 := hx473.size
                      have hS485 := hS464.ext hx473
                      refine ⟨fun _ => hS485, ?_⟩
                      have ho492 := hF481.own ((ixS (nodesL xs es) (el es i).1)) (by have := hF481.len; omega)
                      refine d_e (by decide) (d_e' rfl rfl (e_appendX T.sl38 rfl rfl ho492 (hB475.src1 (k := 1) (m := 1) rfl (by omega)) (ones (by rfl)) (by omega) (by decide) (by omega) ?_))
                      intro v486 w487 hO488 hG489 hN490 hW491
                      obtain ⟨a493, c494, rfl, _, _⟩ := hO488.src.form
                      have hB495 := hB476.gk (hG489) (ho492.rowk) (by decide)
                      have hB496 := hB477.gk (hG489) (ho492.rowk) (by decide)
                      have hF497 := OMap.gk hF478 (hG489) (ho492.rowk) (by decide)
                      have hF498 := hF479.gk (hG489) (ho492.rowk) (by decide)
                      have hF499 := hF480.gk (hG489) (ho492.rowk) (by decide)
                      have hE500 : Below w0.heap.size w0 w487 := grown_below hG489 hE482 (Nat.le_refl _) (fun b hb => by have := (ho492.lt hb).1; omega)
                      have hz501 := hE500.le
                      have hs502 := hG489.size
                      have hF503 := Fam.push hF481 (a := (ixS (nodesL xs es) (el es i).1)) (by have := hF481.len; omega) (xs' := el (rowsU (nodesL xs es) es i) ((ixS (nodesL xs es) (el es i).1)) ++ [i]) (by simp) (Own.snoc (enc := enN) (u := i) hO488) hG489 hW491
                      have hS504 := hS485.grown hG489 (fun b e => .inl e)
                      refine ⟨fun _ => hS504, ?_⟩
                      refine d_q (v := .pointer (some ⟨w287.heap.size, 0 + ((ixS (nodesL xs es) (el es i).1)) * 1, none⟩)) rfl rfl (fun _ => x_index T.sl63 rfl rfl (by omega)) ?_
                      refine d_e (by decide) (d_s' rfl rfl (e_stO (v := .slice a493 (((el (rowsU (nodesL xs es) es i) ((ixS (nodesL xs es) (el es i).1))).length + 1)) c494) (u := .slice a493 (((el (rowsU (nodesL xs es) es i) ((ixS (nodesL xs es) (el es i).1))).length + 1)) c494) enV_len T.sz38 rfl rfl rfl hF499 (by first | omega | (rw [List.length_set]; omega)) (by rfl) ?_))
                      intro w505 _ hP506 hB507
                      have hs508 := hP506.size
                      have hB509 := hB495.gk (hP506.grownBy) (hF499.rowk) (by decide)
                      have hB510 := hB496.gk (hP506.grownBy) (hF499.rowk) (by decide)
                      have hF511 := OMap.gk hF497 (hP506.grownBy) (hF499.rowk) (by decide)
                      have hF512 := hF498.gk (hP506.grownBy) (hF499.rowk) (by decide)
                      have hF513 := Fam.gk hF503 (hP506.grownBy) (hF499.rowk) (by decide)
                      have hE514 : Below w0.heap.size w0 w505 := hP506.below hE500 (by omega)
                      have hz515 := hE514.le
                      refine ⟨need_no (by kernel_rfl), ?_⟩
                      refine d_done ?_
                      refine kn393 _ _ ?_
                      refine kn389 _ _ ?_
                      refine region ?_
                      refine st_q (v := .int .i64 (((i + 1) : Nat) : Int)) (x_addN rfl rfl (by omega)) ?_
                      refine st_q (v := .int .i64 (((i + 1) : Nat) : Int)) (x_move rfl) ?_
                      refine st_nil ?_
                      refine kn374 _ ((i + 1), (vs.set ((ixS (nodesL xs es) (el es i).1)) (.slice a493 (((el (rowsU (nodesL xs es) es i) ((ixS (nodesL xs es) (el es i).1))).length + 1)) c494))) _ ⟨rfl, rfl, rfl, rfl, trivial⟩ ⟨hE514, ?_⟩ ?_
                      ·
                        try dsimp only
                        exact ⟨by omega, by rw [List.length_set]; exact hvl, hB509, hF512, hF511, hB507, (rowsU_succ rfl hix).symm ▸ hF513⟩
                      ·
                        (try dsimp only); omega
                    ·
                      refine exit ?_
                      refine ke386 _ _ _ ?_
                      refine ke376 _ _ _ ?_
                      refine kb367 _ _ ?_
                      refine kn356 _ _ ?_
                      refine seqK fun Q516 kn517 kr518 ke519 => ?_
                      refine region ?_
                      refine st_q (v := .pointer (some ⟨w9.heap.size, 0, none⟩)) (x_move rfl) ?_
                      refine st_q (v := .pointer (some ⟨w9.heap.size, 0, none⟩)) (x_assign rfl) ?_
                      refine st_nil ?_
                      refine kn517 _ _ ?_
                      refine ret ?_
                      refine leave1 (P := Try.prog) (fn := Try.f35) (t := 4) (v := .pointer (some ⟨w9.heap.size, 0, none⟩)) rfl rfl ?_
                      obtain rfl : i = es.length := by omega
                      obtain ⟨hm1, hm2, hm3⟩ := hO.src.capl
                      refine ⟨w9.heap.size, ⟨w0.heap.size, a260, c261, w0.heap.size, _, w287.heap.size, vs⟩, rfl, hx371, rfl, nodesL_SX xs es, hB, hO, ⟨hm3, hm2⟩, hM, hvl, hOb.cells, fun a ha => ?_, fun k hk => ⟨nodesL_mem.2 (.inr ⟨_, el_memE hk, .inl rfl⟩), nodesL_mem.2 (.inr ⟨_, el_memE hk, .inr rfl⟩)⟩, ⟨by have := nodesL_len xs es; omega, by omega⟩, nodesL_fit hfx hfe⟩
                      have h1 := (hF.own a (by omega)).src
                      rw [rowsU_el ha] at h1
                      obtain ⟨q, c, e, _⟩ := h1.form
                      dsimp only
                      rw [e] at h1 ⊢
                      exact ⟨q, c, rfl, h1⟩
            ·
              intro s520 w521 cnt522 hsz523 hleft524 hRg525 hlt526 hG527 hs528 hen529
              have hB530 := hB.gk (hG527) (hRg.rowkR) (by decide)
              have hF531 := hO.gk (hG527) (hRg.rowkR) (by decide)
              have hE532 : Below w0.heap.size w0 w521 := grown_below hG527 hx232 (Nat.le_refl _) (fun b e => by have e := Option.some.inj e; have := hlo_r; omega)
              have hz533 := hE532.le
              have hs534 := hG527.size
              refine st_q (v := .bool true) (x_extract rfl rfl) ?_
              refine st_nil ?_
              refine kn239 _ _ ?_
              refine seqK fun Q535 kn536 kr537 ke538 => ?_
              refine cndT rfl ?_
              refine skip ?_
              refine kn536 _ _ ?_
              refine blockK fun Q539 kn540 kr541 kx542 kb543 => ?_
              refine seqK fun Q544 kn545 kr546 ke547 => ?_
              refine region ?_
              refine st_q (v := .tuple #[.string s520, .int .i64 0]) (x_entry rfl hen529) ?_
              refine st_q (v := .string s520) (x_extract rfl rfl) ?_
              refine st_q (v := .string s520) (x_assign rfl) ?_
              refine st_nil ?_
              refine kn545 _ _ ?_
              refine region ?_
              refine st_q (v := .pointer (some ⟨w9.heap.size, 0, none⟩)) (x_move rfl) ?_
              refine st_q (v := .pointer (some ⟨w9.heap.size, 0, none⟩)) (x_move rfl) ?_
              refine st_q (v := .pointer (some ⟨w9.heap.size, 0, none⟩)) (x_nilCheck rfl) ?_
              refine st_q (v := .pointer (some ⟨w9.heap.size, 0, none⟩)) (x_field (o := 0) T.fa65_0 rfl) ?_
              refine st_q (v := .slice na K.length nc) (x_load1 T.na22 rfl (hB530.one 0 rfl)) ?_
              refine st_q (v := .string s520) (x_move rfl) ?_
              refine st_e (e_buildSlice (cs := [.string s520]) (e := 9) (fun _ => by kernel_rfl) ?_)
              intro w548 hA549
              have hx550 := hA549.ext
              have hs551 := hA549.size
              have hB552 : Blk w548.heap w521.heap.size [.string s520] 9 := hA549.new
              have hB553 := hB530.ext hx550
              have hF554 := hF531.ext hx550
              have hF555 := ORange.ext hRg525 hx550
              have hE556 : Below w0.heap.size w0 w548 := hx550.e hE532 (Nat.le_refl _)
              have hz557 := hE556.le
              have hs558 := hx550.size
              refine st_e (e_appendX T.sl22 rfl rfl hF554 (hB552.src1 (k := 1) (m := 1) rfl (by omega)) (ones (by rfl)) (by omega) (by decide) (by omega) ?_)
              intro v559 w560 hO561 hG562 hN563 hW564
              have hB565 := hB553.gk (hG562) (hF554.rowk) (by decide)
              have hF566 := ORange.gk hF555 (hG562) (hF554.rowk) (by decide) (by decide)
              have hE567 : Below w0.heap.size w0 w560 := grown_below hG562 hE556 (Nat.le_refl _) (fun b hb => (by have := (hF554.lt hb).1; clear hb; omega))
              have hz568 := hE567.le
              have hs569 := hG562.size
              have hO570 := Own.snoc (enc := enS) (u := s520) hO561
              obtain ⟨a571, c572, rfl, hm573, hm574⟩ := hO570.src.form
              refine st_q (v := .pointer (some ⟨w9.heap.size, 0, none⟩)) (x_nilCheck rfl) ?_
              refine st_q (v := .pointer (some ⟨w9.heap.size, 0, none⟩)) (x_field (o := 0) T.fa65_0 rfl) ?_
              refine st_s (e_st (v := .slice a571 ((K.length + 1)) c572) T.sz22 rfl rfl hB565 (by simp [Value.cells]) (by rfl) ?_)
              intro w575 hP576
              have hB577 : Blk w575.heap w9.heap.size [.slice a571 ((K.length + 1)) c572, .map (some w0.heap.size), .slice none 0 0] 65 := hP576.new
              have hs578 := hP576.size
              have hF579 := ORange.gk hF566 (hP576.grownBy) (hB565.rowk) (by decide) (by decide)
              have hF580 := hO570.gk (hP576.grownBy) (hB565.rowk) (by decide)
              have hE581 : Below w0.heap.size w0 w575 := hP576.below hE567 (by omega)
              have hz582 := hE581.le
              refine st_nil ?_
              refine kn540 _ _ ?_
              refine kn235 _ (a571, c572, (K ++ [s520]), (fun z => left z ∧ z ≠ s520), cnt522) _ ⟨rfl, rfl, rfl, trivial⟩ ⟨hE581, ?_⟩ ?_
              ·
                try dsimp only
                have e1 : (K ++ [s520]).length = K.length + 1 := by simp
                have hnd := nodup_out hNd hK hleft524 (fun s h => hRg_ks s h)
                refine ⟨?_, ?_, hF579, hnd.1, hnd.2⟩
                · rw [e1]; exact hB577
                · rw [e1]; exact hF580
              ·
                (try dsimp only); omega

end Go.Proofs.Ytknfjgbipfpnjaa
