import Derived.Test.YtgfolockecjlnaaFinds
namespace Go.Proofs.Ytgfolockecjlnaa
open Go.RowKit Go.Eng Go.OrdPure Go.HeapPure


def risesB (c : Int × Int → Int × Int → Int) (xs : List (Int × Int)) : Bool := (List.range xs.length).all fun i => i == 0 || !decide (c (el xs i) (el xs (i - 1)) < 0)
theorem rises_f {c : Int × Int → Int × Int → Int} {xs : List (Int × Int)} {i : Nat} (h1 : i < xs.length) (h0 : 0 < i) (h : c (el xs i) (el xs (i - 1)) < 0) : risesB c xs = false := by
  rw [risesB, List.all_eq_false]
  exact ⟨i, List.mem_range.2 h1, by simp [h]; omega⟩
theorem rises_t {c : Int × Int → Int × Int → Int} {xs : List (Int × Int)} (h : ∀ i, 0 < i → i < xs.length → ¬ c (el xs i) (el xs (i - 1)) < 0) : risesB c xs = true := by
  rw [risesB, List.all_eq_true]
  intro i hi
  rcases Nat.eq_zero_or_pos i with rfl | h0
  · rfl
  · have := h i h0 (List.mem_range.1 hi)
    simp [this]
set_option maxHeartbeats 4000000 in
theorem sorted32 (fc : Nat) (c : Int × Int → Int × Int → Int) (hcf : CF Try.prog fc) (hcmp : Cmp fc c) (g : Value) (hg : Told g fc) (xs : List (Int × Int)) (vl : Value) (w0 : World) (hl : Src w0.heap vl xs.length 2 (flat enT xs)) : Calls Try.prog 32 #[vl, g] w0 fun e w' => e = .returned (.bool (risesB c xs)) ∧ Ext w0 w' := by
  have hE0 : Below w0.heap.size w0 w0 := Below.refl _ _
  have hz0 := hE0.le
  obtain ⟨a, ca, rfl, hca, hca1⟩ := hl.form
  refine enter Try.func32 rfl 26 Try.ntmps32 rfl ?_
  refine seqK fun Q1 kn2 kr3 ke4 => ?_
  refine region ?_
  refine st_q (v := .bool false) (x_assign rfl) ?_
  refine st_nil ?_
  refine kn2 _ _ ?_
  refine seqK fun Q5 kn6 kr7 ke8 => ?_
  refine region ?_
  refine st_q (v := g) (x_move rfl) ?_
  refine st_c (t_call [g] T.cf53 rfl rfl) (hg _) ?_
  rintro _ _ ⟨rfl, rfl⟩
  refine ⟨_, rfl, ?_⟩
  refine st_q (v := .func (.func fc) #[] #[]) (x_assign rfl) ?_
  refine st_nil ?_
  refine kn6 _ _ ?_
  refine seqK fun Q9 kn10 kr11 ke12 => ?_
  refine seqK fun Q13 kn14 kr15 ke16 => ?_
  refine region ?_
  refine st_q (v := .int .i64 ((1 : Nat) : Int)) (x_assign rfl) ?_
  refine st_nil ?_
  refine kn14 _ _ ?_
  refine blockK fun Q17 kn18 kr19 kx20 kb21 => ?_
  refine loopK (α := Nat) (fun x => [(0, .slice a xs.length ca), (1, .func (.func fc) #[] #[]), (5, .int .i64 ((x : Nat) : Int))]) (fun x w22 => Ext w0 w22 ∧ 1 ≤ x ∧ (x ≤ xs.length ∨ x = 1) ∧ ∀ j, 0 < j → j < x → ¬ c (el xs j) (el xs (j - 1)) < 0) (fun x => xs.length - x) (1) ⟨rfl, rfl, rfl, trivial⟩ ?_ ?_
  ·
    refine ⟨Below.refl _ _, ?_⟩
    try dsimp only
    exact ⟨Nat.le_refl _, .inr rfl, fun j h1 h2 => by omega⟩
  ·
    rintro τ23 i w24 ⟨hx25, ⟨hi1, hi, hI⟩⟩
    try dsimp only at hi1 hi hI
    have hE26 : Below w0.heap.size w0 w24 := hx25.e hE0 (Nat.le_refl _)
    have hz27 := hE26.le
    have hs28 := hx25.size
    intro Q29 kn30 kr31 ke32
    refine seqK fun Q33 kn34 kr35 ke36 => ?_
    refine seqK fun Q37 kn38 kr39 ke40 => ?_
    refine region ?_
    refine st_q (v := .int .i64 ((i : Nat) : Int)) (x_move rfl) ?_
    refine st_q (v := .slice a xs.length ca) (x_move rfl) ?_
    refine st_q (v := .int .i64 ((xs.length : Nat) : Int)) (x_lenSl rfl Try.underlying29 rfl) ?_
    refine st_q (v := .bool (decide (i < xs.length))) (x_lssN rfl rfl) ?_
    refine st_nil ?_
    refine kn38 _ _ ?_
    refine cnd (p := i < xs.length) rfl (fun h41 => ?_) (fun h41 => ?_)
    ·
      refine skip ?_
      refine kn34 _ _ ?_
      refine seqK fun Q42 kn43 kr44 ke45 => ?_
      refine blockK fun Q46 kn47 kr48 kx49 kb50 => ?_
      refine seqK fun Q51 kn52 kr53 ke54 => ?_
      refine regionD1 [4, 9] [0, 1, 2, 3, 4, 5, 6, 7, 8, 9, 11] (.one 0 (.one 1 (.one 2 (.one 3 (.one 4 (.one 5 (.one 6 (.one 7 (.one 8 (.one 9 (.one 10 (.one 11 .done)))))))))))) (by kernel_rfl) (by kernel_rfl) ?_
      intro w55 hx56 hs57
      have hF58 := hx56.e hx25 (Nat.le_refl _)
      have hE59 : Below w0.heap.size w0 w55 := hx56.e hE26 (Nat.le_refl _)
      have hz60 := hE59.le
      have hs61 := hx56.size
      have hS62 : Ext w55 w55 := Below.refl _ _
      refine d_q (v := .func (.func fc) #[] #[]) rfl rfl (fun _ => x_move rfl) ?_
      refine d_q (v := .slice a xs.length ca) rfl rfl (fun _ => x_move rfl) ?_
      refine d_q (v := .int .i64 ((i : Nat) : Int)) rfl rfl (fun _ => x_move rfl) ?_
      obtain ⟨b63, o64, ha65, hc66⟩ := hl.at (by omega)
      refine d_q (v := .pointer (some ⟨b63, o64 + i * 2, none⟩)) rfl rfl (fun _ => x_index' T.sl29 rfl ha65 rfl (by omega)) ?_
      refine d_l (v := .agg #[.int .i64 ((el xs i).1), .int .i64 ((el xs i).2)]) rfl rfl rfl (fun v68 hw67 => x_loadA [.int .i64 ((el xs i).1), .int .i64 ((el xs i).2)] T.ag31 rfl (((hc66.below hE59).elem enT_len (i := i) (by omega)).ext hw67)) ?_
      refine d_q (v := .slice a xs.length ca) rfl rfl (fun _ => x_move rfl) ?_
      refine d_q (v := .int .i64 ((i : Nat) : Int)) rfl rfl (fun _ => x_move rfl) ?_
      refine d_q (v := .int .i64 (((i - 1) : Nat) : Int)) rfl rfl (fun _ => x_subN rfl rfl (by omega) (by omega)) ?_
      refine d_q (v := .pointer (some ⟨b63, o64 + ((i - 1)) * 2, none⟩)) rfl rfl (fun _ => x_index' T.sl29 rfl ha65 rfl (by omega)) ?_
      refine d_l (v := .agg #[.int .i64 ((el xs ((i - 1))).1), .int .i64 ((el xs ((i - 1))).2)]) rfl rfl rfl (fun v70 hw69 => x_loadA [.int .i64 ((el xs ((i - 1))).1), .int .i64 ((el xs ((i - 1))).2)] T.ag31 rfl (((hc66.below hE59).elem enT_len (i := (i - 1)) (by omega)).ext hw69)) ?_
      refine d_e (by decide) (d_c' rfl rfl (t_call [.agg #[.int .i64 ((el xs i).1), .int .i64 ((el xs i).2)], .agg #[.int .i64 ((el xs ((i - 1))).1), .int .i64 ((el xs ((i - 1))).2)]] hcf rfl rfl) (hcmp (el xs i) (el xs (i - 1)) _) ?_)
      rintro _ w71 ⟨rfl, hx72⟩
      refine ⟨_, rfl, ?_⟩
      have hF73 := hx72.e hF58 (Nat.le_refl _)
      have hE74 : Below w0.heap.size w0 w71 := hx72.e hE59 (Nat.le_refl _)
      have hz75 := hE74.le
      have hs76 := hx72.size
      have hS77 := hS62.trans (hx72.mono hS62.size)
      refine ⟨fun _ => hS77, ?_⟩
      refine d_q (v := .bool (decide ((c (el xs i) (el xs (i - 1))) < 0))) rfl rfl (fun _ => x_lss rfl rfl) ?_
      refine d_done ?_
      refine kn52 _ _ ?_
      refine cnd (p := (c (el xs i) (el xs (i - 1))) < 0) rfl (fun h78 => ?_) (fun h78 => ?_)
      ·
        refine seqK fun Q79 kn80 kr81 ke82 => ?_
        refine region ?_
        refine st_q (v := .bool false) (x_assign rfl) ?_
        refine st_nil ?_
        refine kn80 _ _ ?_
        refine ret ?_
        refine kr48 _ _ ?_
        refine kr44 _ _ ?_
        refine kr31 _ _ ?_
        refine kr19 _ _ ?_
        refine kr11 _ _ ?_
        refine leave1 (P := Try.prog) (fn := Try.f32) (t := 4) (v := .bool false) rfl rfl ?_
        exact ⟨by rw [rises_f (by omega) (by omega) (by assumption)], hE74⟩
      ·
        refine skip ?_
        refine kn47 _ _ ?_
        refine kn43 _ _ ?_
        refine region ?_
        refine st_q (v := .int .i64 ((i : Nat) : Int)) (x_move rfl) ?_
        refine st_q (v := .int .i64 (((i + 1) : Nat) : Int)) (x_addN rfl rfl (by omega)) ?_
        refine st_q (v := .int .i64 (((i + 1) : Nat) : Int)) (x_assign rfl) ?_
        refine st_nil ?_
        refine kn30 _ ((i + 1)) _ ⟨rfl, rfl, rfl, trivial⟩ ⟨hF73, ?_⟩ ?_
        ·
          try dsimp only
          exact ⟨by omega, .inl (by omega), fun j h1 h2 => by
            by_cases he : j = i
            · subst he; assumption
            · exact hI j h1 (by omega)⟩
        ·
          (try dsimp only); omega
    ·
      refine exit ?_
      refine ke36 _ _ _ ?_
      refine ke32 _ _ _ ?_
      refine kb21 _ _ ?_
      refine kn10 _ _ ?_
      refine seqK fun Q83 kn84 kr85 ke86 => ?_
      refine region ?_
      refine st_q (v := .bool true) (x_assign rfl) ?_
      refine st_nil ?_
      refine kn84 _ _ ?_
      refine ret ?_
      refine leave1 (P := Try.prog) (fn := Try.f32) (t := 4) (v := .bool true) rfl rfl ?_
      exact ⟨by rw [rises_t (fun j h1 h2 => hI j h1 (by omega))], hE26⟩

set_option maxHeartbeats 4000000 in
theorem refsorted33 (xs : List (Int × Int)) (vl : Value) (w0 : World) (hl : Src w0.heap vl xs.length 2 (flat enT xs)) : Calls Try.prog 33 #[vl] w0 fun e w' => e = .returned (.bool (risesB byc xs)) ∧ Ext w0 w' := by
  have hE0 : Below w0.heap.size w0 w0 := Below.refl _ _
  have hz0 := hE0.le
  obtain ⟨a, ca, rfl, hca, hca1⟩ := hl.form
  refine enter Try.func33 rfl 22 Try.ntmps33 rfl ?_
  refine seqK fun Q1 kn2 kr3 ke4 => ?_
  refine region ?_
  refine st_q (v := .bool false) (x_assign rfl) ?_
  refine st_nil ?_
  refine kn2 _ _ ?_
  refine seqK fun Q5 kn6 kr7 ke8 => ?_
  refine seqK fun Q9 kn10 kr11 ke12 => ?_
  refine region ?_
  refine st_q (v := .int .i64 ((1 : Nat) : Int)) (x_assign rfl) ?_
  refine st_nil ?_
  refine kn10 _ _ ?_
  refine blockK fun Q13 kn14 kr15 kx16 kb17 => ?_
  refine loopK (α := Nat) (fun x => [(0, .slice a xs.length ca), (3, .int .i64 ((x : Nat) : Int))]) (fun x w18 => Ext w0 w18 ∧ 1 ≤ x ∧ (x ≤ xs.length ∨ x = 1) ∧ ∀ j, 0 < j → j < x → ¬ (el xs j).1 < (el xs (j - 1)).1) (fun x => xs.length - x) (1) ⟨rfl, rfl, trivial⟩ ?_ ?_
  ·
    refine ⟨Below.refl _ _, ?_⟩
    try dsimp only
    exact ⟨Nat.le_refl _, .inr rfl, fun j h1 h2 => by omega⟩
  ·
    rintro τ19 i w20 ⟨hx21, ⟨hi1, hi, hI⟩⟩
    try dsimp only at hi1 hi hI
    have hE22 : Below w0.heap.size w0 w20 := hx21.e hE0 (Nat.le_refl _)
    have hz23 := hE22.le
    have hs24 := hx21.size
    intro Q25 kn26 kr27 ke28
    refine seqK fun Q29 kn30 kr31 ke32 => ?_
    refine seqK fun Q33 kn34 kr35 ke36 => ?_
    refine region ?_
    refine st_q (v := .int .i64 ((i : Nat) : Int)) (x_move rfl) ?_
    refine st_q (v := .slice a xs.length ca) (x_move rfl) ?_
    refine st_q (v := .int .i64 ((xs.length : Nat) : Int)) (x_lenSl rfl Try.underlying29 rfl) ?_
    refine st_q (v := .bool (decide (i < xs.length))) (x_lssN rfl rfl) ?_
    refine st_nil ?_
    refine kn34 _ _ ?_
    refine cnd (p := i < xs.length) rfl (fun h37 => ?_) (fun h37 => ?_)
    ·
      refine skip ?_
      refine kn30 _ _ ?_
      refine seqK fun Q38 kn39 kr40 ke41 => ?_
      refine blockK fun Q42 kn43 kr44 kx45 kb46 => ?_
      refine seqK fun Q47 kn48 kr49 ke50 => ?_
      refine regionD1 [4, 10] [0, 1, 2, 3, 4, 5, 6, 7, 8, 9, 10, 11] (.one 0 (.one 1 (.one 2 (.one 3 (.one 4 (.one 5 (.one 6 (.one 7 (.one 8 (.one 9 (.one 10 (.one 11 .done)))))))))))) (by kernel_rfl) (by kernel_rfl) ?_
      intro w51 hx52 hs53
      have hF54 := hx52.e hx21 (Nat.le_refl _)
      have hE55 : Below w0.heap.size w0 w51 := hx52.e hE22 (Nat.le_refl _)
      have hz56 := hE55.le
      have hs57 := hx52.size
      have hS58 : Ext w51 w51 := Below.refl _ _
      refine d_q (v := .slice a xs.length ca) rfl rfl (fun _ => x_move rfl) ?_
      refine d_q (v := .int .i64 ((i : Nat) : Int)) rfl rfl (fun _ => x_move rfl) ?_
      obtain ⟨b59, o60, ha61, hc62⟩ := hl.at (by omega)
      refine d_q (v := .pointer (some ⟨b59, o60 + i * 2, none⟩)) rfl rfl (fun _ => x_index' T.sl29 rfl ha61 rfl (by omega)) ?_
      refine d_q (v := .pointer (some ⟨b59, o60 + i * 2, none⟩)) rfl rfl (fun _ => x_field (o := o60 + i * 2) T.fa31_0 rfl) ?_
      refine d_l (v := .int .i64 ((el xs i).1)) rfl rfl rfl (fun v64 hw63 => x_load1 T.na3 rfl ((((hc62.below hE55).elem enT_len (i := i) (by omega)).fld 0 rfl).ext hw63)) ?_
      refine d_q (v := .slice a xs.length ca) rfl rfl (fun _ => x_move rfl) ?_
      refine d_q (v := .int .i64 ((i : Nat) : Int)) rfl rfl (fun _ => x_move rfl) ?_
      refine d_q (v := .int .i64 (((i - 1) : Nat) : Int)) rfl rfl (fun _ => x_subN rfl rfl (by omega) (by omega)) ?_
      refine d_q (v := .pointer (some ⟨b59, o60 + ((i - 1)) * 2, none⟩)) rfl rfl (fun _ => x_index' T.sl29 rfl ha61 rfl (by omega)) ?_
      refine d_q (v := .pointer (some ⟨b59, o60 + ((i - 1)) * 2, none⟩)) rfl rfl (fun _ => x_field (o := o60 + ((i - 1)) * 2) T.fa31_0 rfl) ?_
      refine d_l (v := .int .i64 ((el xs ((i - 1))).1)) rfl rfl rfl (fun v66 hw65 => x_load1 T.na3 rfl ((((hc62.below hE55).elem enT_len (i := (i - 1)) (by omega)).fld 0 rfl).ext hw65)) ?_
      refine d_q (v := .bool (decide (((el xs i).1) < ((el xs ((i - 1))).1)))) rfl rfl (fun _ => x_lss rfl rfl) ?_
      refine d_done ?_
      refine kn48 _ _ ?_
      refine cnd (p := ((el xs i).1) < ((el xs ((i - 1))).1)) rfl (fun h67 => ?_) (fun h67 => ?_)
      ·
        refine seqK fun Q68 kn69 kr70 ke71 => ?_
        refine region ?_
        refine st_q (v := .bool false) (x_assign rfl) ?_
        refine st_nil ?_
        refine kn69 _ _ ?_
        refine ret ?_
        refine kr44 _ _ ?_
        refine kr40 _ _ ?_
        refine kr27 _ _ ?_
        refine kr15 _ _ ?_
        refine kr7 _ _ ?_
        refine leave1 (P := Try.prog) (fn := Try.f33) (t := 2) (v := .bool false) rfl rfl ?_
        exact ⟨by rw [rises_f (by omega) (by omega) (byc_lt.2 (by assumption))], hE55⟩
      ·
        refine skip ?_
        refine kn43 _ _ ?_
        refine kn39 _ _ ?_
        refine region ?_
        refine st_q (v := .int .i64 ((i : Nat) : Int)) (x_move rfl) ?_
        refine st_q (v := .int .i64 (((i + 1) : Nat) : Int)) (x_addN rfl rfl (by omega)) ?_
        refine st_q (v := .int .i64 (((i + 1) : Nat) : Int)) (x_assign rfl) ?_
        refine st_nil ?_
        refine kn26 _ ((i + 1)) _ ⟨rfl, rfl, trivial⟩ ⟨hF54, ?_⟩ ?_
        ·
          try dsimp only
          exact ⟨by omega, .inl (by omega), fun j h1 h2 => by
            by_cases he : j = i
            · subst he; assumption
            · exact hI j h1 (by omega)⟩
        ·
          (try dsimp only); omega
    ·
      refine exit ?_
      refine ke32 _ _ _ ?_
      refine ke28 _ _ _ ?_
      refine kb17 _ _ ?_
      refine kn6 _ _ ?_
      refine seqK fun Q72 kn73 kr74 ke75 => ?_
      refine region ?_
      refine st_q (v := .bool true) (x_assign rfl) ?_
      refine st_nil ?_
      refine kn73 _ _ ?_
      refine ret ?_
      refine leave1 (P := Try.prog) (fn := Try.f33) (t := 2) (v := .bool true) rfl rfl ?_
      exact ⟨by rw [rises_t (fun j h1 h2 h => hI j h1 (by omega) (byc_lt.1 h))], hE22⟩

end Go.Proofs.Ytgfolockecjlnaa
