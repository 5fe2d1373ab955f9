import Derived.Test.YtgfolockecjlnaaSorts
namespace Go.Proofs.Ytgfolockecjlnaa
open Go.RowKit Go.Eng Go.OrdPure Go.HeapPure


def ddS (c : Int × Int → Int × Int → Int) (acc : List (Int × Int)) (x : Int × Int) : List (Int × Int) := if acc.length = 0 ∨ ¬ c (el acc (acc.length - 1)) x = 0 then acc ++ [x] else acc
def ddL (c : Int × Int → Int × Int → Int) (xs : List (Int × Int)) : List (Int × Int) := xs.foldl (ddS c) []
theorem ddL_snoc {c : Int × Int → Int × Int → Int} (xs : List (Int × Int)) (x : Int × Int) : ddL c (xs ++ [x]) = ddS c (ddL c xs) x := by simp [ddL]
theorem ddS_len {c : Int × Int → Int × Int → Int} (acc : List (Int × Int)) (x : Int × Int) : (ddS c acc x).length ≤ acc.length + 1 := by
  unfold ddS
  split <;> simp
theorem ddL_len {c : Int × Int → Int × Int → Int} (xs : List (Int × Int)) : (ddL c xs).length ≤ xs.length := by
  induction xs using Go.OrdPure.rev_ind with
  | h0 => exact Nat.le_refl _
  | h1 xs x ih =>
    rw [ddL_snoc, List.length_append]
    have := ddS_len (c := c) (ddL c xs) x
    simp only [List.length_singleton]
    omega
set_option maxHeartbeats 4000000 in
theorem sort30z (fc : Nat) (c : Int × Int → Int × Int → Int) (hcf : CF Try.prog fc) (hcmp : Cmp fc c) (hL : Lawful c) (g : Value) (hg : Told g fc) (xs : List (Int × Int)) (vl : Value) (w0 : World) (hl : Src w0.heap vl xs.length 2 (flat enT xs)) (hn : xs.length ≤ 8796093022208) (hz : xs.length = 0) : Calls Try.prog 30 #[vl, g] w0 fun e w' => ∃ v, e = .returned v ∧ Ext w0 w' ∧ Own w'.heap w0.heap.size 31 2 v xs.length (flat enT (srt c xs)) := by
  have hE0 : Below w0.heap.size w0 w0 := Below.refl _ _
  have hz0 := hE0.le
  obtain ⟨a, ca, rfl, hca, hca1⟩ := hl.form
  refine enter Try.func30 rfl 98 Try.ntmps30 rfl ?_
  refine seqK fun Q1 kn2 kr3 ke4 => ?_
  refine region ?_
  refine st_q (v := .slice none 0 0) (x_assign rfl) ?_
  refine st_nil ?_
  refine kn2 _ _ ?_
  refine seqK fun Q5 kn6 kr7 ke8 => ?_
  refine region ?_
  refine st_q (v := g) (x_move rfl) ?_
  refine st_c (t_call [g] T.cf53 rfl rfl) (hg _) ?_
  rintro _ _ ⟨rfl, rfl⟩
  refine ⟨_, rfl, ?_⟩
  refine st_q (v := .func (.func fc) #[] #[]) (x_assign rfl) ?_
  refine st_nil ?_
  refine kn6 _ _ ?_
  refine seqK fun Q9 kn10 kr11 ke12 => ?_
  refine regionD1 [] [0, 2, 3, 5, 6] (.one 0 (.one 2 (.one 3 (.two 1 (.one 5 (.one 4 (.one 6 .done))) 4 (.one 1 (.one 5 (.one 6 .done))))))) (by kernel_rfl) (by kernel_rfl) ?_
  intro w13 hx14 hs15
  have hE16 : Below w0.heap.size w0 w13 := hx14.e hE0 (Nat.le_refl _)
  have hz17 := hE16.le
  have hs18 := hx14.size
  have hS19 : Ext w13 w13 := Below.refl _ _
  refine d_q (v := .slice a xs.length ca) rfl rfl (fun _ => x_move rfl) ?_
  refine d_q (v := .slice a xs.length ca) rfl rfl (fun _ => x_move rfl) ?_
  refine d_q (v := .int .i64 ((xs.length : Nat) : Int)) rfl rfl (fun _ => x_lenSl rfl Try.underlying29 rfl) ?_
  refine d_two ?_ ?_
  ·
    refine id (d_e' rfl rfl (e_append0 (lo := w13.heap.size) T.sl29 rfl rfl (hl.below hE16) (ones (by exact flat_ones)) (by omega) (by decide) (by omega) ?_))
    intro v20 w21 hO22 hG23 hN24
    have hE25 : Below w0.heap.size w0 w21 := hG23.e hE16 (Nat.le_refl _)
    have hz26 := hE25.le
    have hs27 := hG23.size
    have hS28 := hS19.trans (hG23.mono hS19.size)
    refine ⟨fun _ => hS28, ?_⟩
    refine d_q (v := v20) rfl rfl (fun _ => x_assign rfl) ?_
    refine d_e (by decide) (d_e' rfl rfl (e_makeSlice T.sl29 rfl rfl (by omega) (by omega) ?_))
    intro w29 hA30
    have hx31 := hA30.ext
    have hs32 := hA30.size
    have hB33 := hA30.new
    have hF34 := hO22.ext hx31
    have hE35 : Below w0.heap.size w0 w29 := hx31.e hE25 (Nat.le_refl _)
    have hz36 := hE35.le
    have hs37 := hx31.size
    have hS38 := hS28.trans (hx31.mono hS28.size)
    refine ⟨fun _ => hS38, ?_⟩
    refine d_q (v := .slice ((some ⟨w21.heap.size, 0, none⟩)) xs.length xs.length) rfl rfl (fun _ => x_assign rfl) ?_
    refine d_done ?_
    refine kn10 _ _ ?_
    refine seqK fun Q39 kn40 kr41 ke42 => ?_
    refine seqK fun Q43 kn44 kr45 ke46 => ?_
    refine region ?_
    refine st_q (v := .int .i64 ((1 : Nat) : Int)) (x_assign rfl) ?_
    refine st_nil ?_
    refine kn44 _ _ ?_
    refine blockK fun Q47 kn48 kr49 kx50 kb51 => ?_
    refine loopK (α := Unit) (fun _ => [(0, .slice a xs.length ca), (1, .func (.func fc) #[] #[]), (5, v20), (6, .slice ((some ⟨w21.heap.size, 0, none⟩)) xs.length xs.length), (7, .int .i64 ((1 : Nat) : Int))]) (fun _ w52 => w29 = w52 ∧ True) (fun _ => 0) () ⟨rfl, rfl, rfl, rfl, rfl, trivial⟩ ?_ ?_
    ·
      refine ⟨rfl, ?_⟩
      try dsimp only
      all_goals exact trivial
    ·
      rintro τ53 _ w54 ⟨rfl, _⟩
      intro Q55 kn56 kr57 ke58
      refine seqK fun Q59 kn60 kr61 ke62 => ?_
      refine seqK fun Q63 kn64 kr65 ke66 => ?_
      refine region ?_
      refine st_q (v := .int .i64 ((1 : Nat) : Int)) (x_move rfl) ?_
      refine st_q (v := .slice a xs.length ca) (x_move rfl) ?_
      refine st_q (v := .int .i64 ((xs.length : Nat) : Int)) (x_lenSl rfl Try.underlying29 rfl) ?_
      refine st_q (v := .bool (decide (1 < xs.length))) (x_lssN rfl rfl) ?_
      refine st_nil ?_
      refine kn64 _ _ ?_
      refine cnd (p := 1 < xs.length) rfl (fun h67 => ?_) (fun h67 => ?_)
      ·
        exact absurd h67 (by omega)
      ·
        refine exit ?_
        refine ke62 _ _ _ ?_
        refine ke58 _ _ _ ?_
        refine kb51 _ _ ?_
        refine kn40 _ _ ?_
        refine seqK fun Q68 kn69 kr70 ke71 => ?_
        refine region ?_
        refine st_q (v := v20) (x_move rfl) ?_
        refine st_q (v := v20) (x_assign rfl) ?_
        refine st_nil ?_
        refine kn69 _ _ ?_
        refine ret ?_
        refine leave1 (P := Try.prog) (fn := Try.f30) (t := 4) (v := v20) rfl rfl ?_
        exact ⟨_, rfl, hE35, by rw [show srt c xs = xs by rw [List.eq_nil_of_length_eq_zero hz]; rfl]; exact hF34.weak (by omega)⟩
  ·
    refine id (d_e' rfl rfl (e_makeSlice T.sl29 rfl rfl (by omega) (by omega) ?_))
    intro w72 hA73
    have hx74 := hA73.ext
    have hs75 := hA73.size
    have hB76 := hA73.new
    have hE77 : Below w0.heap.size w0 w72 := hx74.e hE16 (Nat.le_refl _)
    have hz78 := hE77.le
    have hs79 := hx74.size
    have hS80 := hS19.trans (hx74.mono hS19.size)
    refine ⟨fun _ => hS80, ?_⟩
    refine d_e (by decide) (d_e' rfl rfl (e_append0 (lo := w72.heap.size) T.sl29 rfl rfl (hl.below hE77) (ones (by exact flat_ones)) (by omega) (by decide) (by omega) ?_))
    intro v81 w82 hO83 hG84 hN85
    have hE86 : Below w0.heap.size w0 w82 := hG84.e hE77 (Nat.le_refl _)
    have hz87 := hE86.le
    have hs88 := hG84.size
    have hS89 := hS80.trans (hG84.mono hS80.size)
    refine ⟨fun _ => hS89, ?_⟩
    refine d_q (v := v81) rfl rfl (fun _ => x_assign rfl) ?_
    refine d_q (v := .slice ((some ⟨w13.heap.size, 0, none⟩)) xs.length xs.length) rfl rfl (fun _ => x_assign rfl) ?_
    refine d_done ?_
    refine kn10 _ _ ?_
    refine seqK fun Q90 kn91 kr92 ke93 => ?_
    refine seqK fun Q94 kn95 kr96 ke97 => ?_
    refine region ?_
    refine st_q (v := .int .i64 ((1 : Nat) : Int)) (x_assign rfl) ?_
    refine st_nil ?_
    refine kn95 _ _ ?_
    refine blockK fun Q98 kn99 kr100 kx101 kb102 => ?_
    refine loopK (α := Unit) (fun _ => [(0, .slice a xs.length ca), (1, .func (.func fc) #[] #[]), (5, v81), (6, .slice ((some ⟨w13.heap.size, 0, none⟩)) xs.length xs.length), (7, .int .i64 ((1 : Nat) : Int))]) (fun _ w103 => w82 = w103 ∧ True) (fun _ => 0) () ⟨rfl, rfl, rfl, rfl, rfl, trivial⟩ ?_ ?_
    ·
      refine ⟨rfl, ?_⟩
      try dsimp only
      all_goals exact trivial
    ·
      rintro τ104 _ w105 ⟨rfl, _⟩
      intro Q106 kn107 kr108 ke109
      refine seqK fun Q110 kn111 kr112 ke113 => ?_
      refine seqK fun Q114 kn115 kr116 ke117 => ?_
      refine region ?_
      refine st_q (v := .int .i64 ((1 : Nat) : Int)) (x_move rfl) ?_
      refine st_q (v := .slice a xs.length ca) (x_move rfl) ?_
      refine st_q (v := .int .i64 ((xs.length : Nat) : Int)) (x_lenSl rfl Try.underlying29 rfl) ?_
      refine st_q (v := .bool (decide (1 < xs.length))) (x_lssN rfl rfl) ?_
      refine st_nil ?_
      refine kn115 _ _ ?_
      refine cnd (p := 1 < xs.length) rfl (fun h118 => ?_) (fun h118 => ?_)
      ·
        exact absurd h118 (by omega)
      ·
        refine exit ?_
        refine ke113 _ _ _ ?_
        refine ke109 _ _ _ ?_
        refine kb102 _ _ ?_
        refine kn91 _ _ ?_
        refine seqK fun Q119 kn120 kr121 ke122 => ?_
        refine region ?_
        refine st_q (v := v81) (x_move rfl) ?_
        refine st_q (v := v81) (x_assign rfl) ?_
        refine st_nil ?_
        refine kn120 _ _ ?_
        refine ret ?_
        refine leave1 (P := Try.prog) (fn := Try.f30) (t := 4) (v := v81) rfl rfl ?_
        exact ⟨_, rfl, hE86, by rw [show srt c xs = xs by rw [List.eq_nil_of_length_eq_zero hz]; rfl]; exact hO83.weak (by omega)⟩

theorem sort30 (fc : Nat) (c : Int × Int → Int × Int → Int) (hcf : CF Try.prog fc) (hcmp : Cmp fc c) (hL : Lawful c) (g : Value) (hg : Told g fc) (xs : List (Int × Int)) (vl : Value) (w0 : World) (hl : Src w0.heap vl xs.length 2 (flat enT xs)) (hn : xs.length ≤ 8796093022208) : Calls Try.prog 30 #[vl, g] w0 fun e w' => ∃ v, e = .returned v ∧ Ext w0 w' ∧ Own w'.heap w0.heap.size 31 2 v xs.length (flat enT (srt c xs)) := by
  rcases Nat.eq_zero_or_pos xs.length with hz | hz
  · exact sort30z fc c hcf hcmp hL g hg xs vl w0 hl hn hz
  · exact sort30p fc c hcf hcmp hL g hg xs vl w0 hl hn hz
theorem dd_last (xs : List (Int × Int)) (x : Int × Int) : 0 < (ddL byc (xs ++ [x])).length ∧ (el (ddL byc (xs ++ [x])) ((ddL byc (xs ++ [x])).length - 1)).1 = x.1 := by
  rw [ddL_snoc, ddS]
  split
  · rename_i h
    refine ⟨by simp, ?_⟩
    rw [List.length_append, List.length_singleton, Nat.add_sub_cancel]
    have := el_append_right (xs := ddL byc xs) (ys := [x]) (i := 0)
    rw [Nat.add_zero] at this
    rw [this]; rfl
  · rename_i h
    refine ⟨by omega, ?_⟩
    exact byc_zero.1 (Decidable.of_not_not fun e => h (.inr e))
set_option maxHeartbeats 4000000 in
theorem set31 (fc : Nat) (c : Int × Int → Int × Int → Int) (hcf : CF Try.prog fc) (hcmp : Cmp fc c) (hL : Lawful c) (g : Value) (hg : Told g fc) (xs : List (Int × Int)) (vl : Value) (w0 : World) (hl : Src w0.heap vl xs.length 2 (flat enT xs)) (hn : xs.length ≤ 8796093022208) : Calls Try.prog 31 #[vl, g] w0 fun e w' => ∃ v, e = .returned v ∧ Ext w0 w' ∧ Own w'.heap w0.heap.size 31 2 v (ddL c (srt c xs)).length (flat enT (ddL c (srt c xs))) := by
  have hE0 : Below w0.heap.size w0 w0 := Below.refl _ _
  have hz0 := hE0.le
  obtain ⟨a, ca, rfl, hca, hca1⟩ := hl.form
  obtain ⟨Y, hY⟩ : ∃ Y, Y = srt c xs := ⟨_, rfl⟩
  have hYl : Y.length = xs.length := by rw [hY, srt_length]
  have hgf : Told (.func (.func fc) #[] #[]) fc := fun w => told53 fc w
  refine enter Try.func31 rfl 39 Try.ntmps31 rfl ?_
  refine seqK fun Q1 kn2 kr3 ke4 => ?_
  refine region ?_
  refine st_q (v := .slice none 0 0) (x_assign rfl) ?_
  refine st_nil ?_
  refine kn2 _ _ ?_
  refine seqK fun Q5 kn6 kr7 ke8 => ?_
  refine region ?_
  refine st_q (v := g) (x_move rfl) ?_
  refine st_c (t_call [g] T.cf53 rfl rfl) (hg _) ?_
  rintro _ _ ⟨rfl, rfl⟩
  refine ⟨_, rfl, ?_⟩
  refine st_q (v := .func (.func fc) #[] #[]) (x_assign rfl) ?_
  refine st_nil ?_
  refine kn6 _ _ ?_
  refine seqK fun Q9 kn10 kr11 ke12 => ?_
  refine region ?_
  refine st_q (v := .slice none 0 0) (x_assign rfl) ?_
  refine st_nil ?_
  refine kn10 _ _ ?_
  refine seqK fun Q13 kn14 kr15 ke16 => ?_
  refine seqK fun Q17 kn18 kr19 ke20 => ?_
  refine region ?_
  refine st_q (v := .slice a xs.length ca) (x_move rfl) ?_
  refine st_q (v := .func (.func fc) #[] #[]) (x_move rfl) ?_
  refine st_c (t_call [.slice a xs.length ca, .func (.func fc) #[] #[]] T.cf30 rfl rfl) (sort30 fc c hcf hcmp hL (.func (.func fc) #[] #[]) hgf xs _ _ (hl.below hE0) (by omega)) ?_
  rintro _ w21 ⟨vS, rfl, hx22, hO23⟩
  rw [← hY, ← hYl] at hO23
  refine ⟨_, rfl, ?_⟩
  have hE24 : Below w0.heap.size w0 w21 := hx22.e hE0 (Nat.le_refl _)
  have hz25 := hE24.le
  have hs26 := hx22.size
  have hO27 := hO23.weak (lo' := w0.heap.size) (by omega)
  obtain ⟨aS, cS, rfl, hcS, hcS1⟩ := hO27.src.form
  have hvS : ∀ k, Value.ownBlock (.slice aS Y.length cS) = some k → k < w21.heap.size := fun k e => (hO27.lt e).2
  obtain ⟨lo, hlo, hlo2⟩ : ∃ lo, lo = w21.heap.size ∧ w0.heap.size ≤ lo := ⟨_, rfl, by omega⟩
  rw [← hlo] at hvS
  refine st_q (v := .int .i64 ((Y.length : Nat) : Int)) (x_lenSl rfl Try.underlying29 rfl) ?_
  refine st_q (v := .int .i64 ((0 : Nat) : Int)) (x_move rfl) ?_
  refine st_nil ?_
  refine kn18 _ _ ?_
  refine blockK fun Q28 kn29 kr30 kx31 kb32 => ?_
  refine loopK (α := Nat × Value) (fun x => [(1, .func (.func fc) #[] #[]), (5, x.2), (12, .slice aS Y.length cS), (13, .int .i64 ((Y.length : Nat) : Int)), (14, .int .i64 ((x.1 : Nat) : Int))]) (fun x w33 => Below w0.heap.size w0 w33 ∧ x.1 ≤ Y.length ∧ lo ≤ w33.heap.size ∧ Own w33.heap w0.heap.size 31 2 (.slice aS Y.length cS) Y.length (flat enT Y) ∧ Own w33.heap lo 31 2 x.2 (ddL c (Y.take x.1)).length (flat enT (ddL c (Y.take x.1)))) (fun x => Y.length - x.1) (0, .slice none 0 0) ⟨rfl, rfl, rfl, rfl, rfl, trivial⟩ ?_ ?_
  ·
    refine ⟨hE24, ?_⟩
    try dsimp only
    exact ⟨Nat.zero_le _, by omega, hO27, Own.nil _ _ _ _⟩
  ·
    rintro τ34 ⟨i, v⟩ w35 ⟨hx36, ⟨hi, hlo3, hS, hO⟩⟩
    try dsimp only at hi hlo3 hS hO
    have hz37 := hx36.le
    intro Q38 kn39 kr40 ke41
    have hm : (ddL c (Y.take i)).length ≤ i := by have := ddL_len (c := c) (Y.take i); rw [List.length_take] at this; omega
    obtain ⟨D, hD⟩ : ∃ D, D = ddL c (Y.take i) := ⟨_, rfl⟩
    rw [← hD] at hO hm
    obtain ⟨aD, cD, rfl, hcD, hcD1⟩ := hO.src.form
    refine seqK fun Q42 kn43 kr44 ke45 => ?_
    refine region ?_
    refine st_q (v := .bool (decide (i < Y.length))) (x_lssN rfl rfl) ?_
    refine st_nil ?_
    refine kn43 _ _ ?_
    refine seqK fun Q46 kn47 kr48 ke49 => ?_
    refine cnd (p := i < Y.length) rfl (fun h50 => ?_) (fun h50 => ?_)
    ·
      refine skip ?_
      refine kn47 _ _ ?_
      refine seqK fun Q51 kn52 kr53 ke54 => ?_
      refine blockK fun Q55 kn56 kr57 kx58 kb59 => ?_
      refine seqK fun Q60 kn61 kr62 ke63 => ?_
      refine region ?_
      obtain ⟨b64, o65, ha66, hc67⟩ := hS.src.at (by omega)
      refine st_q (v := .pointer (some ⟨b64, o65 + i * 2, none⟩)) (x_index' T.sl29 rfl ha66 rfl (by omega)) ?_
      refine st_q (v := .agg #[.int .i64 ((el Y i).1), .int .i64 ((el Y i).2)]) (x_loadA [.int .i64 ((el Y i).1), .int .i64 ((el Y i).2)] T.ag31 rfl (hc67.elem enT_len (i := i) (by omega))) ?_
      refine st_e (e_alloc T.zv31 ?_)
      intro w68 hA69
      have hx70 := hA69.ext
      have hs71 := hA69.size
      have hB72 : Blk w68.heap w35.heap.size [.int .i64 ((0 : Nat) : Int), .int .i64 ((0 : Nat) : Int)] 31 := hA69.new
      have hF73 := hS.ext hx70
      have hF74 := hO.ext hx70
      have hF75 := hc67.ext hx70
      have hE76 : Below w0.heap.size w0 w68 := hx70.e hx36 (Nat.le_refl _)
      have hz77 := hE76.le
      have hs78 := hx70.size
      refine st_s (e_st (v := .agg #[.int .i64 ((el Y i).1), .int .i64 ((el Y i).2)]) T.sz31 rfl rfl hB72 (by simp [Value.cells]) (by rfl) ?_)
      intro w79 hP80
      have hB81 : Blk w79.heap w35.heap.size [.int .i64 ((el Y i).1), .int .i64 ((el Y i).2)] 31 := hP80.new
      have hs82 := hP80.size
      have hF83 := hF73.pt hP80 (by intro e; have := (hS.lt e).2; omega)
      have hF84 := hF74.pt hP80 (by intro e; have := (hO.lt e).2; omega)
      have hE86 : Below w0.heap.size w0 w79 := hP80.below hE76 (by omega)
      have hz87 := hE86.le
      refine st_nil ?_
      refine kn61 _ _ ?_
      refine seqK fun Q88 kn89 kr90 ke91 => ?_
      refine regionD1 [10, 11] [0, 1, 2, 3, 4, 5, 6, 7, 8, 9, 10, 11, 13, 14] (.one 0 (.one 1 (.one 2 (.one 3 (.one 4 (.one 5 (.one 6 (.one 7 (.one 8 (.one 9 (.one 10 (.one 11 (.one 12 (.one 13 (.one 14 .done))))))))))))))) (by kernel_rfl) (by kernel_rfl) ?_
      intro w92 hx93 hs94
      have hB95 := hB81.ext hx93
      have hF96 := hF83.ext hx93
      have hF97 := hF84.ext hx93
      have hE98 : Below w0.heap.size w0 w92 := hx93.e hE86 (Nat.le_refl _)
      have hz99 := hE98.le
      have hs100 := hx93.size
      have hS101 : Ext w92 w92 := Below.refl _ _
      refine d_q (v := .slice aD D.length cD) rfl rfl (fun _ => x_move rfl) ?_
      refine d_q (v := .int .i64 ((D.length : Nat) : Int)) rfl rfl (fun _ => x_lenSl rfl Try.underlying29 rfl) ?_
      refine d_q (v := .bool (decide (D.length = 0))) rfl rfl (fun _ => x_eqlN rfl rfl) ?_
      refine d_if rfl rfl (p := D.length = 0) (fun _ => x_move rfl) (fun h102 => ?_) (fun h102 => ?_)
      ·
        refine d_gn (j := 3) (t := 21) rfl rfl rfl rfl (by decide) rfl ?_
        refine d_gn (j := 3) (t := 21) rfl rfl rfl rfl (by decide) rfl ?_
        refine d_gn (j := 3) (t := 21) rfl rfl rfl rfl (by decide) rfl ?_
        refine d_gn (j := 3) (t := 21) rfl rfl rfl rfl (by decide) rfl ?_
        refine d_gn (j := 3) (t := 21) rfl rfl rfl rfl (by decide) rfl ?_
        refine d_gn (j := 3) (t := 21) rfl rfl rfl rfl (by decide) rfl ?_
        refine d_gn (j := 3) (t := 21) rfl rfl rfl rfl (by decide) rfl ?_
        refine d_gn (j := 3) (t := 21) rfl rfl rfl rfl (by decide) rfl ?_
        refine d_e (by decide) (wpE_skip (j := 3) (t := 21) rfl rfl rfl (by decide) rfl (fun _ => hS101) ?_)
        refine d_gn (j := 3) (t := 21) rfl rfl rfl rfl (by decide) rfl ?_
        refine d_q (v := .bool true) rfl rfl (fun _ => x_pickT rfl rfl) ?_
        refine d_done ?_
        refine kn89 _ _ ?_
        refine cndT rfl ?_
        refine region ?_
        refine st_q (v := .slice aD D.length cD) (x_move rfl) ?_
        refine st_q (v := .agg #[.int .i64 ((el Y i).1), .int .i64 ((el Y i).2)]) (x_loadA [.int .i64 ((el Y i).1), .int .i64 ((el Y i).2)] T.ag31 rfl (hB95.cells 0 [.int .i64 ((el Y i).1), .int .i64 ((el Y i).2)] (cells_at rfl))) ?_
        refine st_e (e_buildSlice (cs := [.int .i64 ((el Y i).1), .int .i64 ((el Y i).2)]) (e := 31) (fun _ => by kernel_rfl) ?_)
        intro w103 hA104
        have hx105 := hA104.ext
        have hs106 := hA104.size
        have hB107 : Blk w103.heap w92.heap.size [.int .i64 ((el Y i).1), .int .i64 ((el Y i).2)] 31 := hA104.new
        have hB108 := hB95.ext hx105
        have hF109 := hF96.ext hx105
        have hF110 := hF97.ext hx105
        have hE111 : Below w0.heap.size w0 w103 := hx105.e hE98 (Nat.le_refl _)
        have hz112 := hE111.le
        have hs113 := hx105.size
        refine st_e (e_appendX T.sl29 rfl rfl hF110 (hB107.src1 (k := 2) (m := 1) rfl (by omega)) (ones (by rfl)) (by omega) (by decide) (by omega) ?_)
        intro v114 w115 hO116 hG117 hN118 hW119
        have hB120 := hB108.grown hG117 (fun e => by first | exact hne e | (have := (hF110.lt e).1; clear e; omega) | (have := (hO.lt e).2; clear e; omega))
        have hF121 := hF109.grown hG117 (fun b hb e => by have := (hF110.lt e); have := (hF109.lt hb); first | (clear e hb; omega) | (have := hvS _ hb; clear e hb; omega))
        have hE122 : Below w0.heap.size w0 w115 := grown_below hG117 hE111 (Nat.le_refl _) (fun b hb => (by have := (hF110.lt hb).1; clear hb; omega))
        have hz123 := hE122.le
        have hs124 := hG117.size
        have hO125 := Own.snoc (enc := enT) (u := (el Y i)) hO116
        obtain ⟨a126, c127, rfl, hm128, hm129⟩ := hO125.src.form
        refine st_q (v := .slice a126 ((D.length + 1)) c127) (x_assign rfl) ?_
        refine st_nil ?_
        refine kn56 _ _ ?_
        refine kn52 _ _ ?_
        refine region ?_
        refine st_q (v := .int .i64 (((i + 1) : Nat) : Int)) (x_addN rfl rfl (by omega)) ?_
        refine st_q (v := .int .i64 (((i + 1) : Nat) : Int)) (x_move rfl) ?_
        refine st_nil ?_
        refine kn39 _ ((i + 1), .slice a126 ((D.length + 1)) c127) _ ⟨rfl, rfl, rfl, rfl, rfl, trivial⟩ ⟨hE122, ?_⟩ ?_
        ·
          try dsimp only
          have e : ddL c (Y.take (i + 1)) = (D ++ [(el Y i)]) := by rw [take_succ_el (by omega), ddL_snoc, ← hD, ddS, if_pos (by first | exact .inl (by omega) | exact .inr (by assumption) | skip)]
          exact ⟨by omega, by omega, hF121, by rw [e]; simpa using hO125⟩
        ·
          (try dsimp only); omega
      ·
        refine d_gq (v := .func (.func fc) #[] #[]) (j := 3) (t := 21) rfl rfl rfl rfl (by decide) (fun _ => x_move rfl) ?_
        refine d_gq (v := .slice aD D.length cD) (j := 3) (t := 21) rfl rfl rfl rfl (by decide) (fun _ => x_move rfl) ?_
        refine d_gq (v := .slice aD D.length cD) (j := 3) (t := 21) rfl rfl rfl rfl (by decide) (fun _ => x_move rfl) ?_
        refine d_gq (v := .int .i64 ((D.length : Nat) : Int)) (j := 3) (t := 21) rfl rfl rfl rfl (by decide) (fun _ => x_lenSl rfl Try.underlying29 rfl) ?_
        refine d_gq (v := .int .i64 (((D.length - 1) : Nat) : Int)) (j := 3) (t := 21) rfl rfl rfl rfl (by decide) (fun _ => x_subN rfl rfl (by omega) (by omega)) ?_
        obtain ⟨b130, o131, ha132, hc133⟩ := hF97.src.at (by omega)
        refine d_gq (v := .pointer (some ⟨b130, o131 + ((D.length - 1)) * 2, none⟩)) (j := 3) (t := 21) rfl rfl rfl rfl (by decide) (fun _ => x_index' T.sl29 rfl ha132 rfl (by omega)) ?_
        refine d_gl (v := .agg #[.int .i64 ((el D ((D.length - 1))).1), .int .i64 ((el D ((D.length - 1))).2)]) (j := 3) (t := 21) rfl rfl rfl rfl rfl (by decide) (fun v135 hw134 => x_loadA [.int .i64 ((el D ((D.length - 1))).1), .int .i64 ((el D ((D.length - 1))).2)] T.ag31 rfl ((hc133.elem enT_len (i := (D.length - 1)) (by omega)).ext hw134)) ?_
        refine d_gl (v := .agg #[.int .i64 ((el Y i).1), .int .i64 ((el Y i).2)]) (j := 3) (t := 21) rfl rfl rfl rfl rfl (by decide) (fun v137 hw136 => x_loadA [.int .i64 ((el Y i).1), .int .i64 ((el Y i).2)] T.ag31 rfl ((hB95.cells 0 [.int .i64 ((el Y i).1), .int .i64 ((el Y i).2)] (cells_at rfl)).ext hw136)) ?_
        refine d_e (by decide) (d_c' rfl (wanted_true (j := 3) (t := 21) rfl rfl (by decide)) (t_call [.agg #[.int .i64 ((el D ((D.length - 1))).1), .int .i64 ((el D ((D.length - 1))).2)], .agg #[.int .i64 ((el Y i).1), .int .i64 ((el Y i).2)]] hcf rfl rfl) (hcmp (el D (D.length - 1)) (el Y i) _) ?_)
        rintro _ w138 ⟨rfl, hx139⟩
        refine ⟨_, rfl, ?_⟩
        have hB140 := hB95.ext hx139
        have hF141 := hF96.ext hx139
        have hF142 := hF97.ext hx139
        have hF143 := hc133.ext hx139
        have hE144 : Below w0.heap.size w0 w138 := hx139.e hE98 (Nat.le_refl _)
        have hz145 := hE144.le
        have hs146 := hx139.size
        have hS147 := hS101.trans (hx139.mono hS101.size)
        refine ⟨fun _ => hS147, ?_⟩
        refine d_gq (v := .bool (decide ((c (el D (D.length - 1)) (el Y i)) ≠ 0))) (j := 3) (t := 21) rfl rfl rfl rfl (by decide) (fun _ => x_neq rfl rfl) ?_
        refine d_q (v := .bool (decide ((c (el D (D.length - 1)) (el Y i)) ≠ 0))) rfl rfl (fun _ => x_pickF rfl rfl) ?_
        refine d_done ?_
        refine kn89 _ _ ?_
        refine cnd (p := (c (el D (D.length - 1)) (el Y i)) ≠ 0) rfl (fun h148 => ?_) (fun h148 => ?_)
        ·
          refine region ?_
          refine st_q (v := .slice aD D.length cD) (x_move rfl) ?_
          refine st_q (v := .agg #[.int .i64 ((el Y i).1), .int .i64 ((el Y i).2)]) (x_loadA [.int .i64 ((el Y i).1), .int .i64 ((el Y i).2)] T.ag31 rfl (hB140.cells 0 [.int .i64 ((el Y i).1), .int .i64 ((el Y i).2)] (cells_at rfl))) ?_
          refine st_e (e_buildSlice (cs := [.int .i64 ((el Y i).1), .int .i64 ((el Y i).2)]) (e := 31) (fun _ => by kernel_rfl) ?_)
          intro w149 hA150
          have hx151 := hA150.ext
          have hs152 := hA150.size
          have hB153 : Blk w149.heap w138.heap.size [.int .i64 ((el Y i).1), .int .i64 ((el Y i).2)] 31 := hA150.new
          have hB154 := hB140.ext hx151
          have hF155 := hF141.ext hx151
          have hF156 := hF142.ext hx151
          have hF157 := hF143.ext hx151
          have hE158 : Below w0.heap.size w0 w149 := hx151.e hE144 (Nat.le_refl _)
          have hz159 := hE158.le
          have hs160 := hx151.size
          refine st_e (e_appendX T.sl29 rfl rfl hF156 (hB153.src1 (k := 2) (m := 1) rfl (by omega)) (ones (by rfl)) (by omega) (by decide) (by omega) ?_)
          intro v161 w162 hO163 hG164 hN165 hW166
          have hB167 := hB154.grown hG164 (fun e => by first | exact hne e | (have := (hF156.lt e).1; clear e; omega) | (have := (hO.lt e).2; clear e; omega))
          have hF168 := hF155.grown hG164 (fun b hb e => by have := (hF156.lt e); have := (hF155.lt hb); first | (clear e hb; omega) | (have := hvS _ hb; clear e hb; omega))
          have hE170 : Below w0.heap.size w0 w162 := grown_below hG164 hE158 (Nat.le_refl _) (fun b hb => (by have := (hF156.lt hb).1; clear hb; omega))
          have hz171 := hE170.le
          have hs172 := hG164.size
          have hO173 := Own.snoc (enc := enT) (u := (el Y i)) hO163
          obtain ⟨a174, c175, rfl, hm176, hm177⟩ := hO173.src.form
          refine st_q (v := .slice a174 ((D.length + 1)) c175) (x_assign rfl) ?_
          refine st_nil ?_
          refine kn56 _ _ ?_
          refine kn52 _ _ ?_
          refine region ?_
          refine st_q (v := .int .i64 (((i + 1) : Nat) : Int)) (x_addN rfl rfl (by omega)) ?_
          refine st_q (v := .int .i64 (((i + 1) : Nat) : Int)) (x_move rfl) ?_
          refine st_nil ?_
          refine kn39 _ ((i + 1), .slice a174 ((D.length + 1)) c175) _ ⟨rfl, rfl, rfl, rfl, rfl, trivial⟩ ⟨hE170, ?_⟩ ?_
          ·
            try dsimp only
            have e : ddL c (Y.take (i + 1)) = (D ++ [(el Y i)]) := by rw [take_succ_el (by omega), ddL_snoc, ← hD, ddS, if_pos (by first | exact .inl (by omega) | exact .inr (by assumption) | skip)]
            exact ⟨by omega, by omega, hF168, by rw [e]; simpa using hO173⟩
          ·
            (try dsimp only); omega
        ·
          refine skip ?_
          refine kn56 _ _ ?_
          refine kn52 _ _ ?_
          refine region ?_
          refine st_q (v := .int .i64 (((i + 1) : Nat) : Int)) (x_addN rfl rfl (by omega)) ?_
          refine st_q (v := .int .i64 (((i + 1) : Nat) : Int)) (x_move rfl) ?_
          refine st_nil ?_
          refine kn39 _ ((i + 1), .slice aD D.length cD) _ ⟨rfl, rfl, rfl, rfl, rfl, trivial⟩ ⟨hE144, ?_⟩ ?_
          ·
            try dsimp only
            have e : ddL c (Y.take (i + 1)) = D := by rw [take_succ_el (by omega), ddL_snoc, ← hD, ddS, if_neg (fun e => e.elim (by assumption) (by assumption))]
            exact ⟨by omega, by omega, hF141, by rw [e]; exact hF142⟩
          ·
            (try dsimp only); omega
    ·
      refine exit ?_
      refine ke49 _ _ _ ?_
      refine ke41 _ _ _ ?_
      refine kb32 _ _ ?_
      refine kn14 _ _ ?_
      refine seqK fun Q178 kn179 kr180 ke181 => ?_
      refine region ?_
      refine st_q (v := .slice aD D.length cD) (x_move rfl) ?_
      refine st_q (v := .slice aD D.length cD) (x_assign rfl) ?_
      refine st_nil ?_
      refine kn179 _ _ ?_
      refine ret ?_
      refine leave1 (P := Try.prog) (fn := Try.f31) (t := 4) (v := .slice aD D.length cD) rfl rfl ?_
      have e : ddL c (srt c xs) = D := by rw [← hY, hD, List.take_of_length_le (by omega)]
      rw [e]
      exact ⟨_, rfl, hx36, hO.weak (by omega)⟩

set_option maxHeartbeats 4000000 in
theorem refset35 (xs : List (Int × Int)) (vl : Value) (w0 : World) (hl : Src w0.heap vl xs.length 2 (flat enT xs)) (hn : xs.length ≤ 8796093022208) : Calls Try.prog 35 #[vl] w0 fun e w' => ∃ v, e = .returned v ∧ Ext w0 w' ∧ Own w'.heap w0.heap.size 31 2 v (ddL byc (srt byc xs)).length (flat enT (ddL byc (srt byc xs))) := by
  have hE0 : Below w0.heap.size w0 w0 := Below.refl _ _
  have hz0 := hE0.le
  obtain ⟨a, ca, rfl, hca, hca1⟩ := hl.form
  obtain ⟨Y, hY⟩ : ∃ Y, Y = srt byc xs := ⟨_, rfl⟩
  have hYl : Y.length = xs.length := by rw [hY, srt_length]
  refine enter Try.func35 rfl 38 Try.ntmps35 rfl ?_
  refine seqK fun Q1 kn2 kr3 ke4 => ?_
  refine region ?_
  refine st_q (v := .slice none 0 0) (x_assign rfl) ?_
  refine st_nil ?_
  refine kn2 _ _ ?_
  refine seqK fun Q5 kn6 kr7 ke8 => ?_
  refine region ?_
  refine st_q (v := .slice a xs.length ca) (x_move rfl) ?_
  refine st_c (t_call [.slice a xs.length ca] T.cf17 rfl rfl) (refsort17 xs _ _ (hl.below hE0) (by omega)) ?_
  rintro _ w9 ⟨vS, rfl, hx10, hO11⟩
  rw [← hY, ← hYl] at hO11
  refine ⟨_, rfl, ?_⟩
  have hE12 : Below w0.heap.size w0 w9 := hx10.e hE0 (Nat.le_refl _)
  have hz13 := hE12.le
  have hs14 := hx10.size
  have hO15 := hO11.weak (lo' := w0.heap.size) (by omega)
  obtain ⟨aS, cS, rfl, hcS, hcS1⟩ := hO15.src.form
  have hvS : ∀ k, Value.ownBlock (.slice aS Y.length cS) = some k → k < w9.heap.size := fun k e => (hO15.lt e).2
  obtain ⟨lo, hlo, hlo2⟩ : ∃ lo, lo = w9.heap.size ∧ w0.heap.size ≤ lo := ⟨_, rfl, by omega⟩
  rw [← hlo] at hvS
  refine st_q (v := .slice aS Y.length cS) (x_assign rfl) ?_
  refine st_nil ?_
  refine kn6 _ _ ?_
  refine seqK fun Q16 kn17 kr18 ke19 => ?_
  refine region ?_
  refine st_q (v := .slice none 0 0) (x_assign rfl) ?_
  refine st_nil ?_
  refine kn17 _ _ ?_
  refine seqK fun Q20 kn21 kr22 ke23 => ?_
  refine seqK fun Q24 kn25 kr26 ke27 => ?_
  refine region ?_
  refine st_q (v := .int .i64 ((0 : Nat) : Int)) (x_assign rfl) ?_
  refine st_nil ?_
  refine kn25 _ _ ?_
  refine blockK fun Q28 kn29 kr30 kx31 kb32 => ?_
  refine loopK (α := Nat × Value) (fun x => [(3, .slice aS Y.length cS), (4, x.2), (5, .int .i64 ((x.1 : Nat) : Int))]) (fun x w33 => Below w0.heap.size w0 w33 ∧ x.1 ≤ Y.length ∧ lo ≤ w33.heap.size ∧ Own w33.heap w0.heap.size 31 2 (.slice aS Y.length cS) Y.length (flat enT Y) ∧ Own w33.heap lo 31 2 x.2 (ddL byc (Y.take x.1)).length (flat enT (ddL byc (Y.take x.1)))) (fun x => Y.length - x.1) (0, .slice none 0 0) ⟨rfl, rfl, rfl, trivial⟩ ?_ ?_
  ·
    refine ⟨hE12, ?_⟩
    try dsimp only
    exact ⟨Nat.zero_le _, by omega, hO15, Own.nil _ _ _ _⟩
  ·
    rintro τ34 ⟨i, v⟩ w35 ⟨hx36, ⟨hi, hlo3, hS, hO⟩⟩
    try dsimp only at hi hlo3 hS hO
    have hz37 := hx36.le
    intro Q38 kn39 kr40 ke41
    have hm : (ddL byc (Y.take i)).length ≤ i := by have := ddL_len (c := byc) (Y.take i); rw [List.length_take] at this; omega
    obtain ⟨D, hD⟩ : ∃ D, D = ddL byc (Y.take i) := ⟨_, rfl⟩
    rw [← hD] at hO hm
    obtain ⟨aD, cD, rfl, hcD, hcD1⟩ := hO.src.form
    refine seqK fun Q42 kn43 kr44 ke45 => ?_
    refine seqK fun Q46 kn47 kr48 ke49 => ?_
    refine region ?_
    refine st_q (v := .int .i64 ((i : Nat) : Int)) (x_move rfl) ?_
    refine st_q (v := .slice aS Y.length cS) (x_move rfl) ?_
    refine st_q (v := .int .i64 ((Y.length : Nat) : Int)) (x_lenSl rfl Try.underlying29 rfl) ?_
    refine st_q (v := .bool (decide (i < Y.length))) (x_lssN rfl rfl) ?_
    refine st_nil ?_
    refine kn47 _ _ ?_
    refine cnd (p := i < Y.length) rfl (fun h50 => ?_) (fun h50 => ?_)
    ·
      refine skip ?_
      refine kn43 _ _ ?_
      refine seqK fun Q51 kn52 kr53 ke54 => ?_
      refine blockK fun Q55 kn56 kr57 kx58 kb59 => ?_
      refine seqK fun Q60 kn61 kr62 ke63 => ?_
      refine regionD1 [7, 13] [0, 1, 2, 3, 4, 5, 6, 7, 8, 9, 10, 11, 12, 13, 14, 15] (.one 0 (.one 1 (.one 2 (.one 3 (.one 4 (.one 5 (.one 6 (.one 7 (.one 8 (.one 9 (.one 10 (.one 11 (.one 12 (.one 13 (.one 14 (.one 15 .done)))))))))))))))) (by kernel_rfl) (by kernel_rfl) ?_
      intro w64 hx65 hs66
      have hF67 := hS.ext hx65
      have hF68 := hO.ext hx65
      have hE69 : Below w0.heap.size w0 w64 := hx65.e hx36 (Nat.le_refl _)
      have hz70 := hE69.le
      have hs71 := hx65.size
      have hS72 : Ext w64 w64 := Below.refl _ _
      refine d_q (v := .int .i64 ((i : Nat) : Int)) rfl rfl (fun _ => x_move rfl) ?_
      refine d_q (v := .bool (decide (i = 0))) rfl rfl (fun _ => x_eqlN rfl rfl) ?_
      refine d_if rfl rfl (p := i = 0) (fun _ => x_move rfl) (fun h73 => ?_) (fun h73 => ?_)
      ·
        refine d_gn (j := 2) (t := 16) rfl rfl rfl rfl (by decide) rfl ?_
        refine d_gn (j := 2) (t := 16) rfl rfl rfl rfl (by decide) rfl ?_
        refine d_gn (j := 2) (t := 16) rfl rfl rfl rfl (by decide) rfl ?_
        refine d_gn (j := 2) (t := 16) rfl rfl rfl rfl (by decide) rfl ?_
        refine d_gn (j := 2) (t := 16) rfl rfl rfl rfl (by decide) rfl ?_
        refine d_gn (j := 2) (t := 16) rfl rfl rfl rfl (by decide) rfl ?_
        refine d_gn (j := 2) (t := 16) rfl rfl rfl rfl (by decide) rfl ?_
        refine d_gn (j := 2) (t := 16) rfl rfl rfl rfl (by decide) rfl ?_
        refine d_gn (j := 2) (t := 16) rfl rfl rfl rfl (by decide) rfl ?_
        refine d_gn (j := 2) (t := 16) rfl rfl rfl rfl (by decide) rfl ?_
        refine d_gn (j := 2) (t := 16) rfl rfl rfl rfl (by decide) rfl ?_
        refine d_gn (j := 2) (t := 16) rfl rfl rfl rfl (by decide) rfl ?_
        refine d_q (v := .bool true) rfl rfl (fun _ => x_pickT rfl rfl) ?_
        refine d_done ?_
        refine kn61 _ _ ?_
        refine cndT rfl ?_
        refine region ?_
        refine st_q (v := .slice aD D.length cD) (x_move rfl) ?_
        refine st_q (v := .slice aS Y.length cS) (x_move rfl) ?_
        refine st_q (v := .int .i64 ((i : Nat) : Int)) (x_move rfl) ?_
        obtain ⟨b74, o75, ha76, hc77⟩ := hF67.src.at (by omega)
        refine st_q (v := .pointer (some ⟨b74, o75 + i * 2, none⟩)) (x_index' T.sl29 rfl ha76 rfl (by omega)) ?_
        refine st_q (v := .agg #[.int .i64 ((el Y i).1), .int .i64 ((el Y i).2)]) (x_loadA [.int .i64 ((el Y i).1), .int .i64 ((el Y i).2)] T.ag31 rfl (hc77.elem enT_len (i := i) (by omega))) ?_
        refine st_e (e_buildSlice (cs := [.int .i64 ((el Y i).1), .int .i64 ((el Y i).2)]) (e := 31) (fun _ => by kernel_rfl) ?_)
        intro w78 hA79
        have hx80 := hA79.ext
        have hs81 := hA79.size
        have hB82 : Blk w78.heap w64.heap.size [.int .i64 ((el Y i).1), .int .i64 ((el Y i).2)] 31 := hA79.new
        have hF83 := hF67.ext hx80
        have hF84 := hF68.ext hx80
        have hF85 := hc77.ext hx80
        have hE86 : Below w0.heap.size w0 w78 := hx80.e hE69 (Nat.le_refl _)
        have hz87 := hE86.le
        have hs88 := hx80.size
        refine st_e (e_appendX T.sl29 rfl rfl hF84 (hB82.src1 (k := 2) (m := 1) rfl (by omega)) (ones (by rfl)) (by omega) (by decide) (by omega) ?_)
        intro v89 w90 hO91 hG92 hN93 hW94
        have hF95 := hF83.grown hG92 (fun b hb e => by have := (hF84.lt e); have := (hF83.lt hb); first | (clear e hb; omega) | (have := hvS _ hb; clear e hb; omega))
        have hE97 : Below w0.heap.size w0 w90 := grown_below hG92 hE86 (Nat.le_refl _) (fun b hb => (by have := (hF84.lt hb).1; clear hb; omega))
        have hz98 := hE97.le
        have hs99 := hG92.size
        have hO100 := Own.snoc (enc := enT) (u := (el Y i)) hO91
        obtain ⟨a101, c102, rfl, hm103, hm104⟩ := hO100.src.form
        refine st_q (v := .slice a101 ((D.length + 1)) c102) (x_assign rfl) ?_
        refine st_nil ?_
        refine kn56 _ _ ?_
        refine kn52 _ _ ?_
        refine region ?_
        refine st_q (v := .int .i64 ((i : Nat) : Int)) (x_move rfl) ?_
        refine st_q (v := .int .i64 (((i + 1) : Nat) : Int)) (x_addN rfl rfl (by omega)) ?_
        refine st_q (v := .int .i64 (((i + 1) : Nat) : Int)) (x_assign rfl) ?_
        refine st_nil ?_
        refine kn39 _ ((i + 1), .slice a101 ((D.length + 1)) c102) _ ⟨rfl, rfl, rfl, trivial⟩ ⟨hE97, ?_⟩ ?_
        ·
          try dsimp only
          have hlast : 0 < i → 0 < D.length ∧ (el D (D.length - 1)).1 = (el Y (i - 1)).1 := fun h0 => by
            have := dd_last (Y.take (i - 1)) (el Y (i - 1))
            rw [← take_succ_el (by omega), Nat.sub_add_cancel h0] at this
            rw [hD]; exact this
          have e : ddL byc (Y.take (i + 1)) = (D ++ [(el Y i)]) := by
            rw [take_succ_el (by omega), ddL_snoc, ← hD, ddS]
            by_cases h0 : i = 0
            · subst h0; have h1 : D.length = 0 := by rw [hD]; rfl
              rw [if_pos (.inl h1)]
            · have h2 := hlast (by omega)
              rw [if_pos (.inr (fun h => by rw [byc_zero, h2.2] at h; omega))]
          exact ⟨by omega, by omega, hF95, by rw [e]; simpa using hO100⟩
        ·
          (try dsimp only); omega
      ·
        refine d_gq (v := .slice aS Y.length cS) (j := 2) (t := 16) rfl rfl rfl rfl (by decide) (fun _ => x_move rfl) ?_
        refine d_gq (v := .int .i64 ((i : Nat) : Int)) (j := 2) (t := 16) rfl rfl rfl rfl (by decide) (fun _ => x_move rfl) ?_
        obtain ⟨b105, o106, ha107, hc108⟩ := hF67.src.at (by omega)
        refine d_gq (v := .pointer (some ⟨b105, o106 + i * 2, none⟩)) (j := 2) (t := 16) rfl rfl rfl rfl (by decide) (fun _ => x_index' T.sl29 rfl ha107 rfl (by omega)) ?_
        refine d_gq (v := .pointer (some ⟨b105, o106 + i * 2, none⟩)) (j := 2) (t := 16) rfl rfl rfl rfl (by decide) (fun _ => x_field (o := o106 + i * 2) T.fa31_0 rfl) ?_
        refine d_gl (v := .int .i64 ((el Y i).1)) (j := 2) (t := 16) rfl rfl rfl rfl rfl (by decide) (fun v110 hw109 => x_load1 T.na3 rfl (((hc108.elem enT_len (i := i) (by omega)).fld 0 rfl).ext hw109)) ?_
        refine d_gq (v := .slice aS Y.length cS) (j := 2) (t := 16) rfl rfl rfl rfl (by decide) (fun _ => x_move rfl) ?_
        refine d_gq (v := .int .i64 ((i : Nat) : Int)) (j := 2) (t := 16) rfl rfl rfl rfl (by decide) (fun _ => x_move rfl) ?_
        refine d_gq (v := .int .i64 (((i - 1) : Nat) : Int)) (j := 2) (t := 16) rfl rfl rfl rfl (by decide) (fun _ => x_subN rfl rfl (by omega) (by omega)) ?_
        obtain ⟨b111, o112, ha113, hc114⟩ := hF67.src.at (by omega)
        refine d_gq (v := .pointer (some ⟨b111, o112 + ((i - 1)) * 2, none⟩)) (j := 2) (t := 16) rfl rfl rfl rfl (by decide) (fun _ => x_index' T.sl29 rfl ha113 rfl (by omega)) ?_
        refine d_gq (v := .pointer (some ⟨b111, o112 + ((i - 1)) * 2, none⟩)) (j := 2) (t := 16) rfl rfl rfl rfl (by decide) (fun _ => x_field (o := o112 + ((i - 1)) * 2) T.fa31_0 rfl) ?_
        refine d_gl (v := .int .i64 ((el Y ((i - 1))).1)) (j := 2) (t := 16) rfl rfl rfl rfl rfl (by decide) (fun v116 hw115 => x_load1 T.na3 rfl (((hc114.elem enT_len (i := (i - 1)) (by omega)).fld 0 rfl).ext hw115)) ?_
        refine d_gq (v := .bool (decide (((el Y i).1) ≠ ((el Y ((i - 1))).1)))) (j := 2) (t := 16) rfl rfl rfl rfl (by decide) (fun _ => x_neq rfl rfl) ?_
        refine d_q (v := .bool (decide (((el Y i).1) ≠ ((el Y ((i - 1))).1)))) rfl rfl (fun _ => x_pickF rfl rfl) ?_
        refine d_done ?_
        refine kn61 _ _ ?_
        refine cnd (p := ((el Y i).1) ≠ ((el Y ((i - 1))).1)) rfl (fun h117 => ?_) (fun h117 => ?_)
        ·
          refine region ?_
          refine st_q (v := .slice aD D.length cD) (x_move rfl) ?_
          refine st_q (v := .slice aS Y.length cS) (x_move rfl) ?_
          refine st_q (v := .int .i64 ((i : Nat) : Int)) (x_move rfl) ?_
          obtain ⟨b118, o119, ha120, hc121⟩ := hF67.src.at (by omega)
          refine st_q (v := .pointer (some ⟨b118, o119 + i * 2, none⟩)) (x_index' T.sl29 rfl ha120 rfl (by omega)) ?_
          refine st_q (v := .agg #[.int .i64 ((el Y i).1), .int .i64 ((el Y i).2)]) (x_loadA [.int .i64 ((el Y i).1), .int .i64 ((el Y i).2)] T.ag31 rfl (hc121.elem enT_len (i := i) (by omega))) ?_
          refine st_e (e_buildSlice (cs := [.int .i64 ((el Y i).1), .int .i64 ((el Y i).2)]) (e := 31) (fun _ => by kernel_rfl) ?_)
          intro w122 hA123
          have hx124 := hA123.ext
          have hs125 := hA123.size
          have hB126 : Blk w122.heap w64.heap.size [.int .i64 ((el Y i).1), .int .i64 ((el Y i).2)] 31 := hA123.new
          have hF127 := hF67.ext hx124
          have hF128 := hF68.ext hx124
          have hF129 := hc108.ext hx124
          have hF130 := hc114.ext hx124
          have hF131 := hc121.ext hx124
          have hE132 : Below w0.heap.size w0 w122 := hx124.e hE69 (Nat.le_refl _)
          have hz133 := hE132.le
          have hs134 := hx124.size
          refine st_e (e_appendX T.sl29 rfl rfl hF128 (hB126.src1 (k := 2) (m := 1) rfl (by omega)) (ones (by rfl)) (by omega) (by decide) (by omega) ?_)
          intro v135 w136 hO137 hG138 hN139 hW140
          have hF141 := hF127.grown hG138 (fun b hb e => by have := (hF128.lt e); have := (hF127.lt hb); first | (clear e hb; omega) | (have := hvS _ hb; clear e hb; omega))
          have hE145 : Below w0.heap.size w0 w136 := grown_below hG138 hE132 (Nat.le_refl _) (fun b hb => (by have := (hF128.lt hb).1; clear hb; omega))
          have hz146 := hE145.le
          have hs147 := hG138.size
          have hO148 := Own.snoc (enc := enT) (u := (el Y i)) hO137
          obtain ⟨a149, c150, rfl, hm151, hm152⟩ := hO148.src.form
          refine st_q (v := .slice a149 ((D.length + 1)) c150) (x_assign rfl) ?_
          refine st_nil ?_
          refine kn56 _ _ ?_
          refine kn52 _ _ ?_
          refine region ?_
          refine st_q (v := .int .i64 ((i : Nat) : Int)) (x_move rfl) ?_
          refine st_q (v := .int .i64 (((i + 1) : Nat) : Int)) (x_addN rfl rfl (by omega)) ?_
          refine st_q (v := .int .i64 (((i + 1) : Nat) : Int)) (x_assign rfl) ?_
          refine st_nil ?_
          refine kn39 _ ((i + 1), .slice a149 ((D.length + 1)) c150) _ ⟨rfl, rfl, rfl, trivial⟩ ⟨hE145, ?_⟩ ?_
          ·
            try dsimp only
            have hlast : 0 < i → 0 < D.length ∧ (el D (D.length - 1)).1 = (el Y (i - 1)).1 := fun h0 => by
              have := dd_last (Y.take (i - 1)) (el Y (i - 1))
              rw [← take_succ_el (by omega), Nat.sub_add_cancel h0] at this
              rw [hD]; exact this
            have e : ddL byc (Y.take (i + 1)) = (D ++ [(el Y i)]) := by
              rw [take_succ_el (by omega), ddL_snoc, ← hD, ddS]
              by_cases h0 : i = 0
              · subst h0; have h1 : D.length = 0 := by rw [hD]; rfl
                rw [if_pos (.inl h1)]
              · have h2 := hlast (by omega)
                rw [if_pos (.inr (fun h => by rw [byc_zero, h2.2] at h; omega))]
            exact ⟨by omega, by omega, hF141, by rw [e]; simpa using hO148⟩
          ·
            (try dsimp only); omega
        ·
          refine skip ?_
          refine kn56 _ _ ?_
          refine kn52 _ _ ?_
          refine region ?_
          refine st_q (v := .int .i64 ((i : Nat) : Int)) (x_move rfl) ?_
          refine st_q (v := .int .i64 (((i + 1) : Nat) : Int)) (x_addN rfl rfl (by omega)) ?_
          refine st_q (v := .int .i64 (((i + 1) : Nat) : Int)) (x_assign rfl) ?_
          refine st_nil ?_
          refine kn39 _ ((i + 1), .slice aD D.length cD) _ ⟨rfl, rfl, rfl, trivial⟩ ⟨hE69, ?_⟩ ?_
          ·
            try dsimp only
            have hlast : 0 < i → 0 < D.length ∧ (el D (D.length - 1)).1 = (el Y (i - 1)).1 := fun h0 => by
              have := dd_last (Y.take (i - 1)) (el Y (i - 1))
              rw [← take_succ_el (by omega), Nat.sub_add_cancel h0] at this
              rw [hD]; exact this
            have e : ddL byc (Y.take (i + 1)) = D := by
              rw [take_succ_el (by omega), ddL_snoc, ← hD, ddS]
              have h2 := hlast (by omega)
              rw [if_neg (fun e => e.elim (by omega) (fun h => h (byc_zero.2 (by rw [h2.2]; omega))))]
            exact ⟨by omega, by omega, hF67, by rw [e]; exact hF68⟩
          ·
            (try dsimp only); omega
    ·
      refine exit ?_
      refine ke45 _ _ _ ?_
      refine ke41 _ _ _ ?_
      refine kb32 _ _ ?_
      refine kn21 _ _ ?_
      refine seqK fun Q153 kn154 kr155 ke156 => ?_
      refine region ?_
      refine st_q (v := .slice aD D.length cD) (x_move rfl) ?_
      refine st_q (v := .slice aD D.length cD) (x_assign rfl) ?_
      refine st_nil ?_
      refine kn154 _ _ ?_
      refine ret ?_
      refine leave1 (P := Try.prog) (fn := Try.f35) (t := 2) (v := .slice aD D.length cD) rfl rfl ?_
      have e : ddL byc (srt byc xs) = D := by rw [← hY, hD, List.take_of_length_le (by omega)]
      rw [e]
      exact ⟨_, rfl, hx36, hO.weak (by omega)⟩

end Go.Proofs.Ytgfolockecjlnaa
