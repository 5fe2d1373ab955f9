import Derived.Test.YtgfolockecjlnaaWorks
namespace Go.Proofs.Ytgfolockecjlnaa
open Go.RowKit Go.Eng Go.OrdPure Go.HeapPure


def roomT (i : Nat) : List (Int × Int) := (List.range i).map fun k => (-70 - ((k : Nat) : Int), -1)
theorem roomT_succ (i : Nat) : roomT (i + 1) = roomT i ++ [(-70 - ((i : Nat) : Int), -1)] := by unfold roomT; rw [List.range_succ, List.map_append]; rfl
@[simp] theorem roomT_len (i : Nat) : (roomT i).length = i := by simp [roomT]
theorem el_roomT {n i : Nat} (h : i < n) : el (roomT n) i = (-70 - ((i : Nat) : Int), -1) := by simp [roomT, el, List.getD_eq_getElem?_getD, h]
theorem ins_at {α : Type} [Inhabited α] {c : α → α → Int} {x : α} : ∀ {p : Nat} {ys : List α}, p ≤ ys.length → (∀ j, j < p → ¬ c x (el ys j) < 0) → (p < ys.length → c x (el ys p) < 0) → ins c x ys = ys.take p ++ x :: ys.drop p
  | 0, [], _, _, _ => rfl
  | 0, y :: ys, _, _, h => by
    have : c x y < 0 := h (by simp)
    simp only [ins]
    rw [if_pos this]
    rfl
  | p + 1, [], h, _, _ => absurd h (by simp)
  | p + 1, y :: ys, h, h1, h2 => by
    have e : ¬ c x y < 0 := h1 0 (by omega)
    simp only [ins]
    rw [if_neg e, ins_at (p := p) (by simpa using h) (fun j hj => h1 (j + 1) (by omega)) (fun hp => h2 (by simpa using hp))]
    rfl
theorem rise_el {α : Type} [Inhabited α] {c : α → α → Int} {ys : List α} (h : Rise c ys) {i j : Nat} (hij : i < j) (hj : j < ys.length) : c (el ys i) (el ys j) ≤ 0 := by
  rw [el_eq (by omega), el_eq hj]
  exact List.pairwise_iff_getElem.1 h i j (by omega) hj hij
theorem byc_lt {a b : Int × Int} : byc a b < 0 ↔ a.1 < b.1 := by unfold byc; split <;> (try split) <;> omega
theorem byc_le {a b : Int × Int} : byc a b ≤ 0 ↔ a.1 ≤ b.1 := by unfold byc; split <;> (try split) <;> omega
theorem ref_ins {xs F : List (Int × Int)} {i p : Nat} (hi : i < xs.length) (hF : F = srt byc (xs.take i)) (hp : p ≤ F.length) (h1 : ∀ j, p ≤ j → j < F.length → (el xs i).1 < (el F j).1) (h2 : p = 0 ∨ ¬ (el xs i).1 < (el F (p - 1)).1) :
    F.take p ++ el xs i :: F.drop p = srt byc (xs.take (i + 1)) := by
  rw [take_succ_el hi, srt_snoc, ← hF]
  refine (ins_at hp (fun j hj => ?_) (fun h => byc_lt.2 (h1 p (Nat.le_refl _) h))).symm
  rw [byc_lt]
  have h2' := h2.resolve_left (by omega)
  by_cases he : j = p - 1
  · subst he; exact h2'
  · have hr := byc_le.1 (rise_el (hF ▸ srt_rise byc_law (xs.take i)) (i := j) (j := p - 1) (by omega) (by omega))
    omega
theorem gap_start {F : List (Int × Int)} {i : Nat} (hF : F.length = i) (y : Int × Int) : F ++ [y] = F.take i ++ y :: F.drop i := by
  rw [List.take_of_length_le (by omega), List.drop_of_length_le (by omega)]
theorem gap_len {F : List (Int × Int)} {k : Nat} (hk : k ≤ F.length) (y : Int × Int) : (F.take k ++ y :: F.drop k).length = F.length + 1 := by
  rw [List.length_append, List.length_cons, List.length_take, List.length_drop]; omega
theorem gap_el {F : List (Int × Int)} {k : Nat} (hk : k ≤ F.length) (h0 : 0 < k) (y : Int × Int) : el (F.take k ++ y :: F.drop k) (k - 1) = el F (k - 1) := by
  rw [el_append_left (by rw [List.length_take]; omega)]
  simp [el, List.getD_eq_getElem?_getD, List.getElem?_take_of_lt (show k - 1 < k by omega)]
theorem gap_set {F : List (Int × Int)} {k : Nat} (hk : k ≤ F.length) (y z : Int × Int) : (F.take k ++ y :: F.drop k).set k z = F.take k ++ z :: F.drop k := by
  have : (F.take k).length = k := by rw [List.length_take]; omega
  rw [List.set_append_right _ _ (by omega), this, Nat.sub_self, List.set_cons_zero]
theorem gap_step {F : List (Int × Int)} {k : Nat} (hk : k ≤ F.length) (h0 : 0 < k) : F.take k ++ el F (k - 1) :: F.drop k = F.take (k - 1) ++ el F (k - 1) :: F.drop (k - 1) := by
  have e1 : F.drop (k - 1) = el F (k - 1) :: F.drop k := by rw [drop_el (by omega), Nat.sub_add_cancel h0]
  have e2 : F.take k = F.take (k - 1) ++ [el F (k - 1)] := by
    have := take_succ_el (xs := F) (i := k - 1) (by omega)
    rw [Nat.sub_add_cancel h0] at this
    exact this
  rw [e1, e2, List.append_assoc]; rfl
set_option maxHeartbeats 4000000 in
theorem lend18 (xs : List (Int × Int)) (vl : Value) (w0 : World) (hl : Src w0.heap vl xs.length 2 (flat enT xs)) (hn : xs.length ≤ 8796093021952) : Calls Try.prog 18 #[vl] w0 fun e w' => ∃ a c, e = .returned (.slice a xs.length c) ∧ Ext w0 w' ∧ xs.length + 9 ≤ c ∧ Own w'.heap w0.heap.size 31 2 (.slice a (xs.length + 9) c) (xs.length + 9) (flat enT (xs ++ roomT 9)) ∧ c ≤ 9223372036854775807 := by
  have hE0 : Below w0.heap.size w0 w0 := Below.refl _ _
  have hz0 := hE0.le
  obtain ⟨a, ca, rfl, hca, hca1⟩ := hl.form
  refine enter Try.func18 rfl 22 Try.ntmps18 rfl ?_
  refine seqK fun Q1 kn2 kr3 ke4 => ?_
  refine region ?_
  refine st_q (v := .slice none 0 0) (x_assign rfl) ?_
  refine st_nil ?_
  refine kn2 _ _ ?_
  refine seqK fun Q5 kn6 kr7 ke8 => ?_
  refine region ?_
  refine st_e (e_buildSlice (cs := []) (e := 31) (fun _ => by kernel_rfl) ?_)
  intro w9 hA10
  have hx11 := hA10.ext
  have hs12 := hA10.size
  have hB13 : Blk w9.heap w0.heap.size [] 31 := hA10.new
  have hE14 : Below w0.heap.size w0 w9 := hx11.e hE0 (Nat.le_refl _)
  have hz15 := hE14.le
  have hs16 := hx11.size
  refine st_q (v := .slice a xs.length ca) (x_move rfl) ?_
  have hO22 := hB13.own0 (k := 2) (lo := w0.heap.size) (by omega)
  refine st_e (e_appendX T.sl29 rfl rfl hO22 (hl.below hE14) (ones (by exact flat_ones)) (by omega) (by decide) (by omega) ?_)
  intro v17 w18 hO19 hG20 hN21 hW23
  have hE24 : Below w0.heap.size w0 w18 := grown_below hG20 hE14 (Nat.le_refl _) (fun b hb => (by have := (hO22.lt hb).1; clear hb; omega))
  have hz25 := hE24.le
  have hs26 := hG20.size
  have hO27 := hO19.zero
  obtain ⟨a28, c29, rfl, hm30, hm31⟩ := hO27.src.form
  refine st_q (v := .slice a28 xs.length c29) (x_assign rfl) ?_
  refine st_nil ?_
  refine kn6 _ _ ?_
  refine seqK fun Q32 kn33 kr34 ke35 => ?_
  refine seqK fun Q36 kn37 kr38 ke39 => ?_
  refine region ?_
  refine st_q (v := .int .i64 ((0 : Nat) : Int)) (x_assign rfl) ?_
  refine st_nil ?_
  refine kn37 _ _ ?_
  refine blockK fun Q40 kn41 kr42 kx43 kb44 => ?_
  refine loopK (α := Nat × Value) (fun x => [(0, .slice a xs.length ca), (3, x.2), (4, .int .i64 ((x.1 : Nat) : Int))]) (fun x w45 => Below w0.heap.size w0 w45 ∧ x.1 ≤ 9 ∧ Own w45.heap w0.heap.size 31 2 x.2 (xs.length + x.1) (flat enT (xs ++ roomT x.1))) (fun x => 9 - x.1) (0, .slice a28 xs.length c29) ⟨rfl, rfl, rfl, trivial⟩ ?_ ?_
  ·
    refine ⟨hE24, ?_⟩
    try dsimp only
    exact ⟨Nat.zero_le _, (by simpa [roomT] using hO27)⟩
  ·
    rintro τ46 ⟨i, v⟩ w47 ⟨hx48, ⟨hi, hO⟩⟩
    try dsimp only at hi hO
    have hz49 := hx48.le
    intro Q50 kn51 kr52 ke53
    obtain ⟨a54, c55, rfl, hm56, hm57⟩ := hO.src.form
    refine seqK fun Q58 kn59 kr60 ke61 => ?_
    refine seqK fun Q62 kn63 kr64 ke65 => ?_
    refine region ?_
    refine st_q (v := .int .i64 ((i : Nat) : Int)) (x_move rfl) ?_
    refine st_q (v := .bool (decide (i < 9))) (x_lssN rfl rfl) ?_
    refine st_nil ?_
    refine kn63 _ _ ?_
    refine cnd (p := i < 9) rfl (fun h66 => ?_) (fun h66 => ?_)
    ·
      refine skip ?_
      refine kn59 _ _ ?_
      refine seqK fun Q67 kn68 kr69 ke70 => ?_
      refine blockK fun Q71 kn72 kr73 kx74 kb75 => ?_
      refine region ?_
      refine st_q (v := .slice a54 ((xs.length + i)) c55) (x_move rfl) ?_
      refine st_q (v := .int .i64 ((i : Nat) : Int)) (x_move rfl) ?_
      refine st_q (v := .int .i64 ((-70 - ((i : Nat) : Int)))) (x_sub rfl rfl ⟨by omega, by omega⟩) ?_
      refine st_c (t_call [.int .i64 ((-70 - ((i : Nat) : Int))), .int .i64 (-1)] T.cf27 rfl rfl) (thing27 (-70 - ((i : Nat) : Int)) (-1) _) ?_
      rintro _ w76 ⟨rfl, hx77⟩
      refine ⟨_, rfl, ?_⟩
      have hF78 := hO.ext hx77
      have hE79 : Below w0.heap.size w0 w76 := hx77.e hx48 (Nat.le_refl _)
      have hz80 := hE79.le
      have hs81 := hx77.size
      refine st_e (e_buildSlice (cs := [.int .i64 ((-70 - ((i : Nat) : Int))), .int .i64 ((-1))]) (e := 31) (fun _ => by kernel_rfl) ?_)
      intro w82 hA83
      have hx84 := hA83.ext
      have hs85 := hA83.size
      have hB86 : Blk w82.heap w76.heap.size [.int .i64 ((-70 - ((i : Nat) : Int))), .int .i64 ((-1))] 31 := hA83.new
      have hF87 := hF78.ext hx84
      have hE88 : Below w0.heap.size w0 w82 := hx84.e hE79 (Nat.le_refl _)
      have hz89 := hE88.le
      have hs90 := hx84.size
      refine st_e (e_appendX T.sl29 rfl rfl hF87 (hB86.src1 (k := 2) (m := 1) rfl (by omega)) (ones (by rfl)) (by omega) (by decide) (by omega) ?_)
      intro v91 w92 hO93 hG94 hN95 hW96
      have hE97 : Below w0.heap.size w0 w92 := grown_below hG94 hE88 (Nat.le_refl _) (fun b hb => (by have := (hF87.lt hb).1; clear hb; omega))
      have hz98 := hE97.le
      have hs99 := hG94.size
      have hO100 := Own.snoc (enc := enT) (u := ((-70 - ((i : Nat) : Int)), (-1))) hO93
      obtain ⟨a101, c102, rfl, hm103, hm104⟩ := hO100.src.form
      refine st_q (v := .slice a101 (((xs.length + i) + 1)) c102) (x_assign rfl) ?_
      refine st_nil ?_
      refine kn72 _ _ ?_
      refine kn68 _ _ ?_
      refine region ?_
      refine st_q (v := .int .i64 ((i : Nat) : Int)) (x_move rfl) ?_
      refine st_q (v := .int .i64 (((i + 1) : Nat) : Int)) (x_addN rfl rfl (by omega)) ?_
      refine st_q (v := .int .i64 (((i + 1) : Nat) : Int)) (x_assign rfl) ?_
      refine st_nil ?_
      refine kn51 _ ((i + 1), .slice a101 (((xs.length + i) + 1)) c102) _ ⟨rfl, rfl, rfl, trivial⟩ ⟨hE97, ?_⟩ ?_
      ·
        try dsimp only
        exact ⟨by omega, by rw [roomT_succ, ← List.append_assoc]; exact hO100⟩
      ·
        (try dsimp only); omega
    ·
      refine exit ?_
      refine ke61 _ _ _ ?_
      refine ke53 _ _ _ ?_
      refine kb44 _ _ ?_
      refine kn33 _ _ ?_
      refine seqK fun Q105 kn106 kr107 ke108 => ?_
      refine region ?_
      refine st_q (v := .slice a54 ((xs.length + i)) c55) (x_move rfl) ?_
      refine st_q (v := .slice a xs.length ca) (x_move rfl) ?_
      refine st_q (v := .int .i64 ((xs.length : Nat) : Int)) (x_lenSl rfl Try.underlying29 rfl) ?_
      refine st_q (v := .slice a54 xs.length c55) (x_sliceHi T.sl29 rfl rfl (by omega)) ?_
      refine st_q (v := .slice a54 xs.length c55) (x_assign rfl) ?_
      refine st_nil ?_
      refine kn106 _ _ ?_
      refine ret ?_
      refine leave1 (P := Try.prog) (fn := Try.f18) (t := 2) (v := .slice a54 xs.length c55) rfl rfl ?_
      obtain rfl : i = 9 := by omega
      exact ⟨_, _, rfl, hx48, by omega, hO, by omega⟩

set_option maxHeartbeats 4000000 in
theorem refsort17 (xs : List (Int × Int)) (vl : Value) (w0 : World) (hl : Src w0.heap vl xs.length 2 (flat enT xs)) (hn : xs.length ≤ 8796093022208) : Calls Try.prog 17 #[vl] w0 fun e w' => ∃ v, e = .returned v ∧ Ext w0 w' ∧ Own w'.heap w0.heap.size 31 2 v xs.length (flat enT (srt byc xs)) := by
  have hE0 : Below w0.heap.size w0 w0 := Below.refl _ _
  have hz0 := hE0.le
  obtain ⟨a, ca, rfl, hca, hca1⟩ := hl.form
  refine enter Try.func17 rfl 61 Try.ntmps17 rfl ?_
  refine seqK fun Q1 kn2 kr3 ke4 => ?_
  refine region ?_
  refine st_q (v := .slice none 0 0) (x_assign rfl) ?_
  refine st_nil ?_
  refine kn2 _ _ ?_
  refine seqK fun Q5 kn6 kr7 ke8 => ?_
  refine region ?_
  refine st_q (v := .slice none 0 0) (x_assign rfl) ?_
  refine st_nil ?_
  refine kn6 _ _ ?_
  refine seqK fun Q9 kn10 kr11 ke12 => ?_
  refine seqK fun Q13 kn14 kr15 ke16 => ?_
  refine region ?_
  refine st_q (v := .int .i64 ((0 : Nat) : Int)) (x_assign rfl) ?_
  refine st_nil ?_
  refine kn14 _ _ ?_
  refine blockK fun Q17 kn18 kr19 kx20 kb21 => ?_
  refine loopK (α := Nat × Value) (fun x => [(0, .slice a xs.length ca), (3, x.2), (4, .int .i64 ((x.1 : Nat) : Int))]) (fun x w22 => Below w0.heap.size w0 w22 ∧ x.1 ≤ xs.length ∧ Own w22.heap w0.heap.size 31 2 x.2 x.1 (flat enT (srt byc (xs.take x.1)))) (fun x => xs.length - x.1) (0, .slice none 0 0) ⟨rfl, rfl, rfl, trivial⟩ ?_ ?_
  ·
    refine ⟨hE0, ?_⟩
    try dsimp only
    exact ⟨Nat.zero_le _, Own.nil _ _ _ _⟩
  ·
    rintro τ23 ⟨i, v⟩ w24 ⟨hx25, ⟨hi, hO⟩⟩
    try dsimp only at hi hO
    have hz26 := hx25.le
    intro Q27 kn28 kr29 ke30
    obtain ⟨F, hF⟩ : ∃ F, F = srt byc (xs.take i) := ⟨_, rfl⟩
    rw [← hF] at hO
    have hFl : F.length = i := by rw [hF, srt_length, List.length_take]; omega
    obtain ⟨a31, c32, rfl, hm33, hm34⟩ := hO.src.form
    refine seqK fun Q35 kn36 kr37 ke38 => ?_
    refine seqK fun Q39 kn40 kr41 ke42 => ?_
    refine region ?_
    refine st_q (v := .int .i64 ((i : Nat) : Int)) (x_move rfl) ?_
    refine st_q (v := .slice a xs.length ca) (x_move rfl) ?_
    refine st_q (v := .int .i64 ((xs.length : Nat) : Int)) (x_lenSl rfl Try.underlying29 rfl) ?_
    refine st_q (v := .bool (decide (i < xs.length))) (x_lssN rfl rfl) ?_
    refine st_nil ?_
    refine kn40 _ _ ?_
    refine cnd (p := i < xs.length) rfl (fun h43 => ?_) (fun h43 => ?_)
    ·
      refine skip ?_
      refine kn36 _ _ ?_
      refine seqK fun Q44 kn45 kr46 ke47 => ?_
      refine blockK fun Q48 kn49 kr50 kx51 kb52 => ?_
      refine seqK fun Q53 kn54 kr55 ke56 => ?_
      refine region ?_
      refine st_q (v := .slice a31 i c32) (x_move rfl) ?_
      refine st_q (v := .int .i64 ((i : Nat) : Int)) (x_lenSl rfl Try.underlying29 rfl) ?_
      refine st_q (v := .int .i64 ((i : Nat) : Int)) (x_assign rfl) ?_
      refine st_nil ?_
      refine kn54 _ _ ?_
      refine seqK fun Q57 kn58 kr59 ke60 => ?_
      refine blockK fun Q61 kn62 kr63 kx64 kb65 => ?_
      refine loopK (α := Nat) (fun x => [(0, .slice a xs.length ca), (3, .slice a31 i c32), (4, .int .i64 ((i : Nat) : Int)), (5, .int .i64 ((x : Nat) : Int))]) (fun x w66 => Ext w24 w66 ∧ x ≤ i ∧ ∀ j, x ≤ j → j < i → (el xs i).1 < (el F j).1) (fun x => x) (i) ⟨rfl, rfl, rfl, rfl, trivial⟩ ?_ ?_
      ·
        refine ⟨Below.refl _ _, ?_⟩
        try dsimp only
        exact ⟨Nat.le_refl _, fun j h1 h2 => by omega⟩
      ·
        rintro τ67 p w68 ⟨hx69, ⟨hp, hP⟩⟩
        try dsimp only at hp hP
        have hF70 := hO.ext hx69
        have hE71 : Below w0.heap.size w0 w68 := hx69.e hx25 (Nat.le_refl _)
        have hz72 := hE71.le
        have hs73 := hx69.size
        intro Q74 kn75 kr76 ke77
        refine seqK fun Q78 kn79 kr80 ke81 => ?_
        refine seqK fun Q82 kn83 kr84 ke85 => ?_
        refine regionD1 [8, 13] [0, 1, 2, 3, 4, 5, 6, 7, 8, 9, 10, 11, 12, 13, 14, 15] (.one 0 (.one 1 (.one 2 (.one 3 (.one 4 (.one 5 (.one 6 (.one 7 (.one 8 (.one 9 (.one 10 (.one 11 (.one 12 (.one 13 (.one 14 (.one 15 .done)))))))))))))))) (by kernel_rfl) (by kernel_rfl) ?_
        intro w86 hx87 hs88
        have hF89 := hF70.ext hx87
        have hF90 := hx87.e hx69 (Nat.le_refl _)
        have hE91 : Below w0.heap.size w0 w86 := hx87.e hE71 (Nat.le_refl _)
        have hz92 := hE91.le
        have hs93 := hx87.size
        have hS94 : Ext w86 w86 := Below.refl _ _
        refine d_q (v := .int .i64 ((p : Nat) : Int)) rfl rfl (fun _ => x_move rfl) ?_
        refine d_q (v := .bool (decide (0 < p))) rfl rfl (fun _ => x_gtrN rfl rfl) ?_
        refine d_if rfl rfl (p := 0 < p) (fun _ => x_move rfl) (fun h95 => ?_) (fun h95 => ?_)
        ·
          refine d_gq (v := .slice a31 i c32) (j := 2) (t := 17) rfl rfl rfl rfl (by decide) (fun _ => x_move rfl) ?_
          refine d_gq (v := .int .i64 ((p : Nat) : Int)) (j := 2) (t := 17) rfl rfl rfl rfl (by decide) (fun _ => x_move rfl) ?_
          refine d_gq (v := .int .i64 (((p - 1) : Nat) : Int)) (j := 2) (t := 17) rfl rfl rfl rfl (by decide) (fun _ => x_subN rfl rfl (by omega) (by omega)) ?_
          obtain ⟨b96, o97, ha98, hc99⟩ := hF89.src.at (by omega)
          refine d_gq (v := .pointer (some ⟨b96, o97 + ((p - 1)) * 2, none⟩)) (j := 2) (t := 17) rfl rfl rfl rfl (by decide) (fun _ => x_index' T.sl29 rfl ha98 rfl (by omega)) ?_
          refine d_gq (v := .pointer (some ⟨b96, o97 + ((p - 1)) * 2, none⟩)) (j := 2) (t := 17) rfl rfl rfl rfl (by decide) (fun _ => x_field (o := o97 + ((p - 1)) * 2) T.fa31_0 rfl) ?_
          refine d_gl (v := .int .i64 ((el F ((p - 1))).1)) (j := 2) (t := 17) rfl rfl rfl rfl rfl (by decide) (fun v101 hw100 => x_load1 T.na3 rfl (((hc99.elem enT_len (i := (p - 1)) (by omega)).fld 0 rfl).ext hw100)) ?_
          refine d_gq (v := .slice a xs.length ca) (j := 2) (t := 17) rfl rfl rfl rfl (by decide) (fun _ => x_move rfl) ?_
          refine d_gq (v := .int .i64 ((i : Nat) : Int)) (j := 2) (t := 17) rfl rfl rfl rfl (by decide) (fun _ => x_move rfl) ?_
          obtain ⟨b102, o103, ha104, hc105⟩ := hl.at (by omega)
          refine d_gq (v := .pointer (some ⟨b102, o103 + i * 2, none⟩)) (j := 2) (t := 17) rfl rfl rfl rfl (by decide) (fun _ => x_index' T.sl29 rfl ha104 rfl (by omega)) ?_
          refine d_gq (v := .pointer (some ⟨b102, o103 + i * 2, none⟩)) (j := 2) (t := 17) rfl rfl rfl rfl (by decide) (fun _ => x_field (o := o103 + i * 2) T.fa31_0 rfl) ?_
          refine d_gl (v := .int .i64 ((el xs i).1)) (j := 2) (t := 17) rfl rfl rfl rfl rfl (by decide) (fun v107 hw106 => x_load1 T.na3 rfl ((((hc105.below hE91).elem enT_len (i := i) (by omega)).fld 0 rfl).ext hw106)) ?_
          refine d_gq (v := .bool (decide (((el xs i).1) < ((el F ((p - 1))).1)))) (j := 2) (t := 17) rfl rfl rfl rfl (by decide) (fun _ => x_gtr rfl rfl) ?_
          refine d_q (v := .bool (decide (((el xs i).1) < ((el F ((p - 1))).1)))) rfl rfl (fun _ => x_pickT rfl rfl) ?_
          refine d_done ?_
          refine kn83 _ _ ?_
          refine cnd (p := ((el xs i).1) < ((el F ((p - 1))).1)) rfl (fun h108 => ?_) (fun h108 => ?_)
          ·
            refine skip ?_
            refine kn79 _ _ ?_
            refine blockK fun Q109 kn110 kr111 kx112 kb113 => ?_
            refine region ?_
            refine st_q (v := .int .i64 ((p : Nat) : Int)) (x_move rfl) ?_
            refine st_q (v := .int .i64 (((p - 1) : Nat) : Int)) (x_subN rfl rfl (by omega) (by omega)) ?_
            refine st_q (v := .int .i64 (((p - 1) : Nat) : Int)) (x_assign rfl) ?_
            refine st_nil ?_
            refine kn110 _ _ ?_
            refine kn75 _ ((p - 1)) _ ⟨rfl, rfl, rfl, rfl, trivial⟩ ⟨hF90, ?_⟩ ?_
            ·
              try dsimp only
              exact ⟨by omega, fun j h1 h2 => by
                by_cases he : j = p - 1
                · subst he; assumption
                · exact hP j (by omega) h2⟩
            ·
              (try dsimp only); omega
          ·
            refine exit ?_
            refine ke81 _ _ _ ?_
            refine ke77 _ _ _ ?_
            refine kb65 _ _ ?_
            refine kn58 _ _ ?_
            refine seqK fun Q114 kn115 kr116 ke117 => ?_
            refine region ?_
            refine st_q (v := .slice a31 i c32) (x_move rfl) ?_
            refine st_q (v := .agg #[.int .i64 ((0 : Nat) : Int), .int .i64 ((0 : Nat) : Int)]) (x_build (fun _ => by kernel_rfl)) ?_
            refine st_e (e_buildSlice (cs := [.int .i64 ((0 : Nat) : Int), .int .i64 ((0 : Nat) : Int)]) (e := 31) (fun _ => by kernel_rfl) ?_)
            intro w118 hA119
            have hx120 := hA119.ext
            have hs121 := hA119.size
            have hB122 : Blk w118.heap w86.heap.size [.int .i64 ((0 : Nat) : Int), .int .i64 ((0 : Nat) : Int)] 31 := hA119.new
            have hF123 := hF89.ext hx120
            have hF124 := hx120.e hF90 (Nat.le_refl _)
            have hF125 := hc99.ext hx120
            have hE126 : Below w0.heap.size w0 w118 := hx120.e hE91 (Nat.le_refl _)
            have hz127 := hE126.le
            have hs128 := hx120.size
            refine st_e (e_appendX T.sl29 rfl rfl hF123 (hB122.src1 (k := 2) (m := 1) rfl (by omega)) (ones (by rfl)) (by omega) (by decide) (by omega) ?_)
            intro v129 w130 hO131 hG132 hN133 _
            have hE135 : Below w0.heap.size w0 w130 := grown_below hG132 hE126 (Nat.le_refl _) (fun b hb => (by have := (hF123.lt hb).1; omega))
            have hz136 := hE135.le
            obtain ⟨b1, c1, rfl, hm1, hO1⟩ := (show Own w130.heap w0.heap.size 31 2 v129 (i + 1) (flat enT (F ++ [(0, 0)])) from hO131.snoc).ob (hN133 (by omega))
            have hl137 := hO1.lo
            have hl138 := hO1.lt
            refine st_q (v := .slice ((some ⟨b1, 0, none⟩)) ((i + 1)) c1) (x_assign rfl) ?_
            refine st_nil ?_
            refine kn115 _ _ ?_
            refine seqK fun Q139 kn140 kr141 ke142 => ?_
            refine seqK fun Q143 kn144 kr145 ke146 => ?_
            refine region ?_
            refine st_q (v := .slice ((some ⟨b1, 0, none⟩)) ((i + 1)) c1) (x_move rfl) ?_
            refine st_q (v := .int .i64 (((i + 1) : Nat) : Int)) (x_lenSl rfl Try.underlying29 rfl) ?_
            refine st_q (v := .int .i64 ((((i + 1) - 1) : Nat) : Int)) (x_subN rfl rfl (by omega) (by omega)) ?_
            refine st_q (v := .int .i64 ((((i + 1) - 1) : Nat) : Int)) (x_assign rfl) ?_
            refine st_nil ?_
            refine kn144 _ _ ?_
            refine blockK fun Q147 kn148 kr149 kx150 kb151 => ?_
            refine loopK (α := Nat × (Int × Int)) (fun x => [(0, .slice a xs.length ca), (3, .slice ((some ⟨b1, 0, none⟩)) ((i + 1)) c1), (4, .int .i64 ((i : Nat) : Int)), (5, .int .i64 ((p : Nat) : Int)), (6, .int .i64 ((x.1 : Nat) : Int))]) (fun x w152 => Below w0.heap.size w0 w152 ∧ OB w152.heap w0.heap.size 31 2 b1 c1 (flat enT (F.take x.1 ++ x.2 :: F.drop x.1)) ∧ p ≤ x.1 ∧ x.1 ≤ i) (fun x => x.1) ((i + 1 - 1), (0, 0)) ⟨rfl, rfl, rfl, rfl, rfl, trivial⟩ ?_ ?_
            ·
              refine ⟨hE135, ?_⟩
              try dsimp only
              rw [Nat.add_sub_cancel]
              exact ⟨gap_start hFl (0, 0) ▸ hO1, by omega, Nat.le_refl _⟩
            ·
              rintro τ153 ⟨k, y⟩ w154 ⟨hx155, ⟨hO2, hk1, hk2⟩⟩
              try dsimp only at hO2 hk1 hk2
              have hz156 := hx155.le
              intro Q157 kn158 kr159 ke160
              have hl161 := hO2.lo
              have hl162 := hO2.lt
              have hgl := gap_len (F := F) (k := k) (by omega) y
              refine seqK fun Q163 kn164 kr165 ke166 => ?_
              refine seqK fun Q167 kn168 kr169 ke170 => ?_
              refine region ?_
              refine st_q (v := .int .i64 ((k : Nat) : Int)) (x_move rfl) ?_
              refine st_q (v := .int .i64 ((p : Nat) : Int)) (x_move rfl) ?_
              refine st_q (v := .bool (decide (p < k))) (x_gtrN rfl rfl) ?_
              refine st_nil ?_
              refine kn168 _ _ ?_
              refine cnd (p := p < k) rfl (fun h171 => ?_) (fun h171 => ?_)
              ·
                refine skip ?_
                refine kn164 _ _ ?_
                refine seqK fun Q172 kn173 kr174 ke175 => ?_
                refine blockK fun Q176 kn177 kr178 kx179 kb180 => ?_
                refine region ?_
                refine st_q (v := .slice ((some ⟨b1, 0, none⟩)) ((i + 1)) c1) (x_move rfl) ?_
                refine st_q (v := .int .i64 ((k : Nat) : Int)) (x_move rfl) ?_
                refine st_q (v := .slice ((some ⟨b1, 0, none⟩)) ((i + 1)) c1) (x_move rfl) ?_
                refine st_q (v := .int .i64 ((k : Nat) : Int)) (x_move rfl) ?_
                refine st_q (v := .int .i64 (((k - 1) : Nat) : Int)) (x_subN rfl rfl (by omega) (by omega)) ?_
                refine st_q (v := .pointer (some ⟨b1, 0 + ((k - 1)) * 2, none⟩)) (x_index T.sl29 rfl rfl (by omega)) ?_
                refine st_q (v := .agg #[.int .i64 ((el (F.take k ++ y :: F.drop k) ((k - 1))).1), .int .i64 ((el (F.take k ++ y :: F.drop k) ((k - 1))).2)]) (x_loadA [.int .i64 ((el (F.take k ++ y :: F.drop k) ((k - 1))).1), .int .i64 ((el (F.take k ++ y :: F.drop k) ((k - 1))).2)] T.ag31 rfl (hO2.cells.elem enT_len (i := (k - 1)) (by omega))) ?_
                refine st_q (v := .pointer (some ⟨b1, 0 + k * 2, none⟩)) (x_index T.sl29 rfl rfl (by omega)) ?_
                refine st_s (e_stO (v := .agg #[.int .i64 ((el (F.take k ++ y :: F.drop k) ((k - 1))).1), .int .i64 ((el (F.take k ++ y :: F.drop k) ((k - 1))).2)]) (u := (el (F.take k ++ y :: F.drop k) ((k - 1)))) enT_len T.sz31 rfl rfl rfl hO2 (by first | omega | (rw [List.length_set]; omega)) (by rfl) ?_)
                intro w181 _ hP182 hB183
                have hs184 := hP182.size
                have hE185 : Below w0.heap.size w0 w181 := hP182.below hx155 (by omega)
                have hz186 := hE185.le
                refine st_nil ?_
                refine kn177 _ _ ?_
                refine kn173 _ _ ?_
                refine region ?_
                refine st_q (v := .int .i64 ((k : Nat) : Int)) (x_move rfl) ?_
                refine st_q (v := .int .i64 (((k - 1) : Nat) : Int)) (x_subN rfl rfl (by omega) (by omega)) ?_
                refine st_q (v := .int .i64 (((k - 1) : Nat) : Int)) (x_assign rfl) ?_
                refine st_nil ?_
                refine kn158 _ ((k - 1), (el F (k - 1))) _ ⟨rfl, rfl, rfl, rfl, rfl, trivial⟩ ⟨hE185, ?_⟩ ?_
                ·
                  try dsimp only
                  have hh := hB183
                  rw [gap_el (by omega) (by omega), gap_set (by omega), gap_step (by omega) (by omega)] at hh
                  exact ⟨hh, by omega, by omega⟩
                ·
                  (try dsimp only); omega
              ·
                refine exit ?_
                refine ke166 _ _ _ ?_
                refine ke160 _ _ _ ?_
                refine kb151 _ _ ?_
                refine kn140 _ _ ?_
                refine region ?_
                refine st_q (v := .slice ((some ⟨b1, 0, none⟩)) ((i + 1)) c1) (x_move rfl) ?_
                refine st_q (v := .int .i64 ((p : Nat) : Int)) (x_move rfl) ?_
                refine st_q (v := .slice a xs.length ca) (x_move rfl) ?_
                refine st_q (v := .int .i64 ((i : Nat) : Int)) (x_move rfl) ?_
                refine st_q (v := .pointer (some ⟨b102, o103 + i * 2, none⟩)) (x_index' T.sl29 rfl ha104 rfl (by omega)) ?_
                refine st_q (v := .agg #[.int .i64 ((el xs i).1), .int .i64 ((el xs i).2)]) (x_loadA [.int .i64 ((el xs i).1), .int .i64 ((el xs i).2)] T.ag31 rfl ((hc105.below hx155).elem enT_len (i := i) (by omega))) ?_
                refine st_q (v := .pointer (some ⟨b1, 0 + p * 2, none⟩)) (x_index T.sl29 rfl rfl (by omega)) ?_
                refine st_s (e_stO (v := .agg #[.int .i64 ((el xs i).1), .int .i64 ((el xs i).2)]) (u := (el xs i)) enT_len T.sz31 rfl rfl rfl hO2 (by first | omega | (rw [List.length_set]; omega)) (by rfl) ?_)
                intro w187 _ hP188 hB189
                have hs190 := hP188.size
                have hE191 : Below w0.heap.size w0 w187 := hP188.below hx155 (by omega)
                have hz192 := hE191.le
                refine st_nil ?_
                refine kn49 _ _ ?_
                refine kn45 _ _ ?_
                refine region ?_
                refine st_q (v := .int .i64 ((i : Nat) : Int)) (x_move rfl) ?_
                refine st_q (v := .int .i64 (((i + 1) : Nat) : Int)) (x_addN rfl rfl (by omega)) ?_
                refine st_q (v := .int .i64 (((i + 1) : Nat) : Int)) (x_assign rfl) ?_
                refine st_nil ?_
                refine kn28 _ ((i + 1), .slice ((some ⟨b1, 0, none⟩)) ((i + 1)) c1) _ ⟨rfl, rfl, rfl, trivial⟩ ⟨hE191, ?_⟩ ?_
                ·
                  try dsimp only
                  obtain rfl : p = k := by omega
                  have hh := hB189.own (m := i + 1) hm1 (by rw [flat_length enT_len, List.length_set, gap_len (by omega)]; omega)
                  rw [gap_set (by omega), ref_ins (by omega) hF (by omega) (by rw [hFl]; exact hP) (by first | exact .inl (by omega) | exact .inr (by assumption))] at hh
                  exact ⟨by omega, hh⟩
                ·
                  (try dsimp only); omega
        ·
          refine d_gn (j := 2) (t := 17) rfl rfl rfl rfl (by decide) rfl ?_
          refine d_gn (j := 2) (t := 17) rfl rfl rfl rfl (by decide) rfl ?_
          refine d_gn (j := 2) (t := 17) rfl rfl rfl rfl (by decide) rfl ?_
          refine d_gn (j := 2) (t := 17) rfl rfl rfl rfl (by decide) rfl ?_
          refine d_gn (j := 2) (t := 17) rfl rfl rfl rfl (by decide) rfl ?_
          refine d_gn (j := 2) (t := 17) rfl rfl rfl rfl (by decide) rfl ?_
          refine d_gn (j := 2) (t := 17) rfl rfl rfl rfl (by decide) rfl ?_
          refine d_gn (j := 2) (t := 17) rfl rfl rfl rfl (by decide) rfl ?_
          refine d_gn (j := 2) (t := 17) rfl rfl rfl rfl (by decide) rfl ?_
          refine d_gn (j := 2) (t := 17) rfl rfl rfl rfl (by decide) rfl ?_
          refine d_gn (j := 2) (t := 17) rfl rfl rfl rfl (by decide) rfl ?_
          refine d_gn (j := 2) (t := 17) rfl rfl rfl rfl (by decide) rfl ?_
          refine d_q (v := .bool false) rfl rfl (fun _ => x_pickF rfl rfl) ?_
          refine d_done ?_
          refine kn83 _ _ ?_
          refine cndF rfl ?_
          refine exit ?_
          refine ke81 _ _ _ ?_
          refine ke77 _ _ _ ?_
          refine kb65 _ _ ?_
          refine kn58 _ _ ?_
          refine seqK fun Q193 kn194 kr195 ke196 => ?_
          refine region ?_
          refine st_q (v := .slice a31 i c32) (x_move rfl) ?_
          refine st_q (v := .agg #[.int .i64 ((0 : Nat) : Int), .int .i64 ((0 : Nat) : Int)]) (x_build (fun _ => by kernel_rfl)) ?_
          refine st_e (e_buildSlice (cs := [.int .i64 ((0 : Nat) : Int), .int .i64 ((0 : Nat) : Int)]) (e := 31) (fun _ => by kernel_rfl) ?_)
          intro w197 hA198
          have hx199 := hA198.ext
          have hs200 := hA198.size
          have hB201 : Blk w197.heap w86.heap.size [.int .i64 ((0 : Nat) : Int), .int .i64 ((0 : Nat) : Int)] 31 := hA198.new
          have hF202 := hF89.ext hx199
          have hF203 := hx199.e hF90 (Nat.le_refl _)
          have hE204 : Below w0.heap.size w0 w197 := hx199.e hE91 (Nat.le_refl _)
          have hz205 := hE204.le
          have hs206 := hx199.size
          refine st_e (e_appendX T.sl29 rfl rfl hF202 (hB201.src1 (k := 2) (m := 1) rfl (by omega)) (ones (by rfl)) (by omega) (by decide) (by omega) ?_)
          intro v207 w208 hO209 hG210 hN211 _
          have hE213 : Below w0.heap.size w0 w208 := grown_below hG210 hE204 (Nat.le_refl _) (fun b hb => (by have := (hF202.lt hb).1; omega))
          have hz214 := hE213.le
          obtain ⟨b1, c1, rfl, hm1, hO1⟩ := (show Own w208.heap w0.heap.size 31 2 v207 (i + 1) (flat enT (F ++ [(0, 0)])) from hO209.snoc).ob (hN211 (by omega))
          have hl215 := hO1.lo
          have hl216 := hO1.lt
          refine st_q (v := .slice ((some ⟨b1, 0, none⟩)) ((i + 1)) c1) (x_assign rfl) ?_
          refine st_nil ?_
          refine kn194 _ _ ?_
          refine seqK fun Q217 kn218 kr219 ke220 => ?_
          refine seqK fun Q221 kn222 kr223 ke224 => ?_
          refine region ?_
          refine st_q (v := .slice ((some ⟨b1, 0, none⟩)) ((i + 1)) c1) (x_move rfl) ?_
          refine st_q (v := .int .i64 (((i + 1) : Nat) : Int)) (x_lenSl rfl Try.underlying29 rfl) ?_
          refine st_q (v := .int .i64 ((((i + 1) - 1) : Nat) : Int)) (x_subN rfl rfl (by omega) (by omega)) ?_
          refine st_q (v := .int .i64 ((((i + 1) - 1) : Nat) : Int)) (x_assign rfl) ?_
          refine st_nil ?_
          refine kn222 _ _ ?_
          refine blockK fun Q225 kn226 kr227 kx228 kb229 => ?_
          refine loopK (α := Nat × (Int × Int)) (fun x => [(0, .slice a xs.length ca), (3, .slice ((some ⟨b1, 0, none⟩)) ((i + 1)) c1), (4, .int .i64 ((i : Nat) : Int)), (5, .int .i64 ((p : Nat) : Int)), (6, .int .i64 ((x.1 : Nat) : Int))]) (fun x w230 => Below w0.heap.size w0 w230 ∧ OB w230.heap w0.heap.size 31 2 b1 c1 (flat enT (F.take x.1 ++ x.2 :: F.drop x.1)) ∧ p ≤ x.1 ∧ x.1 ≤ i) (fun x => x.1) ((i + 1 - 1), (0, 0)) ⟨rfl, rfl, rfl, rfl, rfl, trivial⟩ ?_ ?_
          ·
            refine ⟨hE213, ?_⟩
            try dsimp only
            rw [Nat.add_sub_cancel]
            exact ⟨gap_start hFl (0, 0) ▸ hO1, by omega, Nat.le_refl _⟩
          ·
            rintro τ231 ⟨k, y⟩ w232 ⟨hx233, ⟨hO2, hk1, hk2⟩⟩
            try dsimp only at hO2 hk1 hk2
            have hz234 := hx233.le
            intro Q235 kn236 kr237 ke238
            have hl239 := hO2.lo
            have hl240 := hO2.lt
            have hgl := gap_len (F := F) (k := k) (by omega) y
            refine seqK fun Q241 kn242 kr243 ke244 => ?_
            refine seqK fun Q245 kn246 kr247 ke248 => ?_
            refine region ?_
            refine st_q (v := .int .i64 ((k : Nat) : Int)) (x_move rfl) ?_
            refine st_q (v := .int .i64 ((p : Nat) : Int)) (x_move rfl) ?_
            refine st_q (v := .bool (decide (p < k))) (x_gtrN rfl rfl) ?_
            refine st_nil ?_
            refine kn246 _ _ ?_
            refine cnd (p := p < k) rfl (fun h249 => ?_) (fun h249 => ?_)
            ·
              refine skip ?_
              refine kn242 _ _ ?_
              refine seqK fun Q250 kn251 kr252 ke253 => ?_
              refine blockK fun Q254 kn255 kr256 kx257 kb258 => ?_
              refine region ?_
              refine st_q (v := .slice ((some ⟨b1, 0, none⟩)) ((i + 1)) c1) (x_move rfl) ?_
              refine st_q (v := .int .i64 ((k : Nat) : Int)) (x_move rfl) ?_
              refine st_q (v := .slice ((some ⟨b1, 0, none⟩)) ((i + 1)) c1) (x_move rfl) ?_
              refine st_q (v := .int .i64 ((k : Nat) : Int)) (x_move rfl) ?_
              refine st_q (v := .int .i64 (((k - 1) : Nat) : Int)) (x_subN rfl rfl (by omega) (by omega)) ?_
              refine st_q (v := .pointer (some ⟨b1, 0 + ((k - 1)) * 2, none⟩)) (x_index T.sl29 rfl rfl (by omega)) ?_
              refine st_q (v := .agg #[.int .i64 ((el (F.take k ++ y :: F.drop k) ((k - 1))).1), .int .i64 ((el (F.take k ++ y :: F.drop k) ((k - 1))).2)]) (x_loadA [.int .i64 ((el (F.take k ++ y :: F.drop k) ((k - 1))).1), .int .i64 ((el (F.take k ++ y :: F.drop k) ((k - 1))).2)] T.ag31 rfl (hO2.cells.elem enT_len (i := (k - 1)) (by omega))) ?_
              refine st_q (v := .pointer (some ⟨b1, 0 + k * 2, none⟩)) (x_index T.sl29 rfl rfl (by omega)) ?_
              refine st_s (e_stO (v := .agg #[.int .i64 ((el (F.take k ++ y :: F.drop k) ((k - 1))).1), .int .i64 ((el (F.take k ++ y :: F.drop k) ((k - 1))).2)]) (u := (el (F.take k ++ y :: F.drop k) ((k - 1)))) enT_len T.sz31 rfl rfl rfl hO2 (by first | omega | (rw [List.length_set]; omega)) (by rfl) ?_)
              intro w259 _ hP260 hB261
              have hs262 := hP260.size
              have hE263 : Below w0.heap.size w0 w259 := hP260.below hx233 (by omega)
              have hz264 := hE263.le
              refine st_nil ?_
              refine kn255 _ _ ?_
              refine kn251 _ _ ?_
              refine region ?_
              refine st_q (v := .int .i64 ((k : Nat) : Int)) (x_move rfl) ?_
              refine st_q (v := .int .i64 (((k - 1) : Nat) : Int)) (x_subN rfl rfl (by omega) (by omega)) ?_
              refine st_q (v := .int .i64 (((k - 1) : Nat) : Int)) (x_assign rfl) ?_
              refine st_nil ?_
              refine kn236 _ ((k - 1), (el F (k - 1))) _ ⟨rfl, rfl, rfl, rfl, rfl, trivial⟩ ⟨hE263, ?_⟩ ?_
              ·
                try dsimp only
                have hh := hB261
                rw [gap_el (by omega) (by omega), gap_set (by omega), gap_step (by omega) (by omega)] at hh
                exact ⟨hh, by omega, by omega⟩
              ·
                (try dsimp only); omega
            ·
              refine exit ?_
              refine ke244 _ _ _ ?_
              refine ke238 _ _ _ ?_
              refine kb229 _ _ ?_
              refine kn218 _ _ ?_
              refine region ?_
              refine st_q (v := .slice ((some ⟨b1, 0, none⟩)) ((i + 1)) c1) (x_move rfl) ?_
              refine st_q (v := .int .i64 ((p : Nat) : Int)) (x_move rfl) ?_
              refine st_q (v := .slice a xs.length ca) (x_move rfl) ?_
              refine st_q (v := .int .i64 ((i : Nat) : Int)) (x_move rfl) ?_
              obtain ⟨b265, o266, ha267, hc268⟩ := hl.at (by omega)
              refine st_q (v := .pointer (some ⟨b265, o266 + i * 2, none⟩)) (x_index' T.sl29 rfl ha267 rfl (by omega)) ?_
              refine st_q (v := .agg #[.int .i64 ((el xs i).1), .int .i64 ((el xs i).2)]) (x_loadA [.int .i64 ((el xs i).1), .int .i64 ((el xs i).2)] T.ag31 rfl ((hc268.below hx233).elem enT_len (i := i) (by omega))) ?_
              refine st_q (v := .pointer (some ⟨b1, 0 + p * 2, none⟩)) (x_index T.sl29 rfl rfl (by omega)) ?_
              refine st_s (e_stO (v := .agg #[.int .i64 ((el xs i).1), .int .i64 ((el xs i).2)]) (u := (el xs i)) enT_len T.sz31 rfl rfl rfl hO2 (by first | omega | (rw [List.length_set]; omega)) (by rfl) ?_)
              intro w269 _ hP270 hB271
              have hs272 := hP270.size
              have hE273 : Below w0.heap.size w0 w269 := hP270.below hx233 (by omega)
              have hz274 := hE273.le
              refine st_nil ?_
              refine kn49 _ _ ?_
              refine kn45 _ _ ?_
              refine region ?_
              refine st_q (v := .int .i64 ((i : Nat) : Int)) (x_move rfl) ?_
              refine st_q (v := .int .i64 (((i + 1) : Nat) : Int)) (x_addN rfl rfl (by omega)) ?_
              refine st_q (v := .int .i64 (((i + 1) : Nat) : Int)) (x_assign rfl) ?_
              refine st_nil ?_
              refine kn28 _ ((i + 1), .slice ((some ⟨b1, 0, none⟩)) ((i + 1)) c1) _ ⟨rfl, rfl, rfl, trivial⟩ ⟨hE273, ?_⟩ ?_
              ·
                try dsimp only
                obtain rfl : p = k := by omega
                have hh := hB271.own (m := i + 1) hm1 (by rw [flat_length enT_len, List.length_set, gap_len (by omega)]; omega)
                rw [gap_set (by omega), ref_ins (by omega) hF (by omega) (by rw [hFl]; exact hP) (by first | exact .inl (by omega) | exact .inr (by assumption))] at hh
                exact ⟨by omega, hh⟩
              ·
                (try dsimp only); omega
    ·
      refine exit ?_
      refine ke38 _ _ _ ?_
      refine ke30 _ _ _ ?_
      refine kb21 _ _ ?_
      refine kn10 _ _ ?_
      refine seqK fun Q275 kn276 kr277 ke278 => ?_
      refine region ?_
      refine st_q (v := .slice a31 i c32) (x_move rfl) ?_
      refine st_q (v := .slice a31 i c32) (x_assign rfl) ?_
      refine st_nil ?_
      refine kn276 _ _ ?_
      refine ret ?_
      refine leave1 (P := Try.prog) (fn := Try.f17) (t := 2) (v := .slice a31 i c32) rfl rfl ?_
      obtain rfl : i = xs.length := by omega
      rw [hF, List.take_length] at *
      exact ⟨_, rfl, hx25, hO⟩

end Go.Proofs.Ytgfolockecjlnaa
