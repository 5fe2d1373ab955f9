import Derived.Test.YtgfolockecjlnaaRef
namespace Go.Proofs.Ytgfolockecjlnaa
open Go.RowKit Go.Eng Go.OrdPure Go.HeapPure
theorem T.cf54 : CF Try.prog 54 := fun _ _ => by kernel_rfl

def hasB (xs : List (Int × Int)) (z : Int × Int) : Bool := xs.any fun a => a.1 == z.1
theorem has_t {xs : List (Int × Int)} {z : Int × Int} {i : Nat} (hi : i < xs.length) (h : (el xs i).1 = z.1) : hasB xs z = true := by
  rw [hasB, List.any_eq_true]
  exact ⟨el xs i, by rw [el_eq hi]; exact List.getElem_mem _, by simpa using h⟩
theorem has_f {xs : List (Int × Int)} {z : Int × Int} (h : ∀ j, j < xs.length → ¬ (el xs j).1 = z.1) : hasB xs z = false := by
  rw [hasB, List.any_eq_false]
  intro a ha
  obtain ⟨i, hi, rfl⟩ := List.getElem_of_mem ha
  have := h i hi
  rw [el_eq hi] at this
  simpa using this
def low (xs : List (Int × Int)) (z : Int × Int) : Nat := xs.countP fun a => decide (a.1 < z.1)
theorem low_y {xs : List (Int × Int)} {z : Int × Int} {i : Nat} (hi : i < xs.length) (h : (el xs i).1 < z.1) : low (xs.take (i + 1)) z = low (xs.take i) z + 1 := by
  rw [take_succ_el hi, low, List.countP_append]; simp [low, h]
theorem low_n {xs : List (Int × Int)} {z : Int × Int} {i : Nat} (hi : i < xs.length) (h : ¬ (el xs i).1 < z.1) : low (xs.take (i + 1)) z = low (xs.take i) z := by
  rw [take_succ_el hi, low, List.countP_append]; simp [low]; omega
set_option maxHeartbeats 4000000 in
theorem has54 (xs : List (Int × Int)) (z : Int × Int) (vl : Value) (w0 : World) (hl : Src w0.heap vl xs.length 2 (flat enT xs)) : Calls Try.prog 54 #[vl, .agg (enT z).toArray] w0 fun e w' => e = .returned (.bool (hasB xs z)) ∧ Ext w0 w' := by
  have hE0 : Below w0.heap.size w0 w0 := Below.refl _ _
  have hz0 := hE0.le
  obtain ⟨a, ca, rfl, hca, hca1⟩ := hl.form
  refine enter Try.func54 rfl 20 Try.ntmps54 rfl ?_
  refine seqK fun Q1 kn2 kr3 ke4 => ?_
  refine region ?_
  refine st_e (e_box (v := .agg #[.int .i64 z.1, .int .i64 z.2]) rfl ?_)
  intro w5 hA6
  have hx7 := hA6.ext
  have hs8 := hA6.size
  have hB9 : Blk w5.heap w0.heap.size [.int .i64 z.1, .int .i64 z.2] 31 := hA6.new
  have hE10 : Below w0.heap.size w0 w5 := hx7.e hE0 (Nat.le_refl _)
  have hz11 := hE10.le
  have hs12 := hx7.size
  refine st_q (v := .bool false) (x_assign rfl) ?_
  refine st_nil ?_
  refine kn2 _ _ ?_
  refine seqK fun Q13 kn14 kr15 ke16 => ?_
  refine seqK fun Q17 kn18 kr19 ke20 => ?_
  refine region ?_
  refine st_q (v := .int .i64 ((0 : Nat) : Int)) (x_assign rfl) ?_
  refine st_nil ?_
  refine kn18 _ _ ?_
  refine blockK fun Q21 kn22 kr23 kx24 kb25 => ?_
  refine loopK (α := Nat) (fun x => [(0, .slice a xs.length ca), (3, .pointer (some ⟨w0.heap.size, 0, none⟩)), (5, .int .i64 ((x : Nat) : Int))]) (fun x w26 => Ext w5 w26 ∧ x ≤ xs.length ∧ ∀ j, j < x → ¬ (el xs j).1 = z.1) (fun x => xs.length - x) (0) ⟨rfl, rfl, rfl, trivial⟩ ?_ ?_
  ·
    refine ⟨Below.refl _ _, ?_⟩
    try dsimp only
    exact ⟨Nat.zero_le _, fun j h => by omega⟩
  ·
    rintro τ27 i w28 ⟨hx29, ⟨hi, hI⟩⟩
    try dsimp only at hi hI
    have hB30 := hB9.ext hx29
    have hE31 : Below w0.heap.size w0 w28 := hx29.e hE10 (Nat.le_refl _)
    have hz32 := hE31.le
    have hs33 := hx29.size
    intro Q34 kn35 kr36 ke37
    refine seqK fun Q38 kn39 kr40 ke41 => ?_
    refine seqK fun Q42 kn43 kr44 ke45 => ?_
    refine region ?_
    refine st_q (v := .int .i64 ((i : Nat) : Int)) (x_move rfl) ?_
    refine st_q (v := .slice a xs.length ca) (x_move rfl) ?_
    refine st_q (v := .int .i64 ((xs.length : Nat) : Int)) (x_lenSl rfl Try.underlying29 rfl) ?_
    refine st_q (v := .bool (decide (i < xs.length))) (x_lssN rfl rfl) ?_
    refine st_nil ?_
    refine kn43 _ _ ?_
    refine cnd (p := i < xs.length) rfl (fun h46 => ?_) (fun h46 => ?_)
    ·
      refine skip ?_
      refine kn39 _ _ ?_
      refine seqK fun Q47 kn48 kr49 ke50 => ?_
      refine blockK fun Q51 kn52 kr53 kx54 kb55 => ?_
      refine seqK fun Q56 kn57 kr58 ke59 => ?_
      refine regionD1 [4, 6] [0, 1, 2, 3, 4, 5, 6, 7] (.one 0 (.one 1 (.one 2 (.one 3 (.one 4 (.one 5 (.one 6 (.one 7 .done)))))))) (by kernel_rfl) (by kernel_rfl) ?_
      intro w60 hx61 hs62
      have hB63 := hB30.ext hx61
      have hF64 := hx61.e hx29 (Nat.le_refl _)
      have hE65 : Below w0.heap.size w0 w60 := hx61.e hE31 (Nat.le_refl _)
      have hz66 := hE65.le
      have hs67 := hx61.size
      have hS68 : Ext w60 w60 := Below.refl _ _
      refine d_q (v := .slice a xs.length ca) rfl rfl (fun _ => x_move rfl) ?_
      refine d_q (v := .int .i64 ((i : Nat) : Int)) rfl rfl (fun _ => x_move rfl) ?_
      obtain ⟨b69, o70, ha71, hc72⟩ := hl.at (by omega)
      refine d_q (v := .pointer (some ⟨b69, o70 + i * 2, none⟩)) rfl rfl (fun _ => x_index' T.sl29 rfl ha71 rfl (by omega)) ?_
      refine d_q (v := .pointer (some ⟨b69, o70 + i * 2, none⟩)) rfl rfl (fun _ => x_field (o := o70 + i * 2) T.fa31_0 rfl) ?_
      refine d_l (v := .int .i64 ((el xs i).1)) rfl rfl rfl (fun v74 hw73 => x_load1 T.na3 rfl ((((hc72.below hE65).elem enT_len (i := i) (by omega)).fld 0 rfl).ext hw73)) ?_
      refine d_q (v := .pointer (some ⟨w0.heap.size, 0, none⟩)) rfl rfl (fun _ => x_field (o := 0) T.fa31_0 rfl) ?_
      refine d_l (v := .int .i64 z.1) rfl rfl rfl (fun v76 hw75 => x_load1 T.na3 rfl ((hB63.one 0 rfl).ext hw75)) ?_
      refine d_q (v := .bool (decide (((el xs i).1) = z.1))) rfl rfl (fun _ => x_eql rfl rfl) ?_
      refine d_done ?_
      refine kn57 _ _ ?_
      refine cnd (p := ((el xs i).1) = z.1) rfl (fun h77 => ?_) (fun h77 => ?_)
      ·
        refine seqK fun Q78 kn79 kr80 ke81 => ?_
        refine region ?_
        refine st_q (v := .bool true) (x_assign rfl) ?_
        refine st_nil ?_
        refine kn79 _ _ ?_
        refine ret ?_
        refine kr53 _ _ ?_
        refine kr49 _ _ ?_
        refine kr36 _ _ ?_
        refine kr23 _ _ ?_
        refine kr15 _ _ ?_
        refine leave1 (P := Try.prog) (fn := Try.f54) (t := 4) (v := .bool true) rfl rfl ?_
        exact ⟨by rw [has_t (by omega) (by assumption)], hE65⟩
      ·
        refine skip ?_
        refine kn52 _ _ ?_
        refine kn48 _ _ ?_
        refine region ?_
        refine st_q (v := .int .i64 ((i : Nat) : Int)) (x_move rfl) ?_
        refine st_q (v := .int .i64 (((i + 1) : Nat) : Int)) (x_addN rfl rfl (by omega)) ?_
        refine st_q (v := .int .i64 (((i + 1) : Nat) : Int)) (x_assign rfl) ?_
        refine st_nil ?_
        refine kn35 _ ((i + 1)) _ ⟨rfl, rfl, rfl, trivial⟩ ⟨hF64, ?_⟩ ?_
        ·
          try dsimp only
          exact ⟨by omega, fun j h => by
            by_cases he : j = i
            · subst he; assumption
            · exact hI j (by omega)⟩
        ·
          (try dsimp only); omega
    ·
      refine exit ?_
      refine ke41 _ _ _ ?_
      refine ke37 _ _ _ ?_
      refine kb25 _ _ ?_
      refine kn14 _ _ ?_
      refine seqK fun Q82 kn83 kr84 ke85 => ?_
      refine region ?_
      refine st_q (v := .bool false) (x_assign rfl) ?_
      refine st_nil ?_
      refine kn83 _ _ ?_
      refine ret ?_
      refine leave1 (P := Try.prog) (fn := Try.f54) (t := 4) (v := .bool false) rfl rfl ?_
      exact ⟨by rw [has_f (fun j hj => hI j (by omega))], hE31⟩

set_option maxHeartbeats 4000000 in
theorem reffind21 (xs : List (Int × Int)) (z : Int × Int) (vl : Value) (w0 : World) (hl : Src w0.heap vl xs.length 2 (flat enT xs)) : Calls Try.prog 21 #[vl, .agg (enT z).toArray] w0 fun e w' => e = .returned (.tuple #[.int .i64 ((low xs z : Nat) : Int), .bool (hasB xs z)]) ∧ Ext w0 w' := by
  have hE0 : Below w0.heap.size w0 w0 := Below.refl _ _
  have hz0 := hE0.le
  obtain ⟨a, ca, rfl, hca, hca1⟩ := hl.form
  refine enter Try.func21 rfl 28 Try.ntmps21 rfl ?_
  refine seqK fun Q1 kn2 kr3 ke4 => ?_
  refine region ?_
  refine st_e (e_box (v := .agg #[.int .i64 z.1, .int .i64 z.2]) rfl ?_)
  intro w5 hA6
  have hx7 := hA6.ext
  have hs8 := hA6.size
  have hB9 : Blk w5.heap w0.heap.size [.int .i64 z.1, .int .i64 z.2] 31 := hA6.new
  have hE10 : Below w0.heap.size w0 w5 := hx7.e hE0 (Nat.le_refl _)
  have hz11 := hE10.le
  have hs12 := hx7.size
  refine st_q (v := .int .i64 ((0 : Nat) : Int)) (x_assign rfl) ?_
  refine st_q (v := .bool false) (x_assign rfl) ?_
  refine st_nil ?_
  refine kn2 _ _ ?_
  refine seqK fun Q13 kn14 kr15 ke16 => ?_
  refine region ?_
  refine st_q (v := .int .i64 ((0 : Nat) : Int)) (x_assign rfl) ?_
  refine st_nil ?_
  refine kn14 _ _ ?_
  refine seqK fun Q17 kn18 kr19 ke20 => ?_
  refine seqK fun Q21 kn22 kr23 ke24 => ?_
  refine region ?_
  refine st_q (v := .int .i64 ((0 : Nat) : Int)) (x_assign rfl) ?_
  refine st_nil ?_
  refine kn22 _ _ ?_
  refine blockK fun Q25 kn26 kr27 kx28 kb29 => ?_
  refine loopK (α := Nat × Nat) (fun x => [(0, .slice a xs.length ca), (3, .pointer (some ⟨w0.heap.size, 0, none⟩)), (6, .int .i64 ((x.2 : Nat) : Int)), (7, .int .i64 ((x.1 : Nat) : Int))]) (fun x w30 => Ext w5 w30 ∧ x.1 ≤ xs.length ∧ x.2 ≤ x.1 ∧ x.2 = low (xs.take x.1) z) (fun x => xs.length - x.1) (0, 0) ⟨rfl, rfl, rfl, rfl, trivial⟩ ?_ ?_
  ·
    refine ⟨Below.refl _ _, ?_⟩
    try dsimp only
    exact ⟨Nat.zero_le _, Nat.le_refl _, rfl⟩
  ·
    rintro τ31 ⟨i, n⟩ w32 ⟨hx33, ⟨hi, hni, hN⟩⟩
    try dsimp only at hi hni hN
    have hB34 := hB9.ext hx33
    have hE35 : Below w0.heap.size w0 w32 := hx33.e hE10 (Nat.le_refl _)
    have hz36 := hE35.le
    have hs37 := hx33.size
    intro Q38 kn39 kr40 ke41
    refine seqK fun Q42 kn43 kr44 ke45 => ?_
    refine seqK fun Q46 kn47 kr48 ke49 => ?_
    refine region ?_
    refine st_q (v := .int .i64 ((i : Nat) : Int)) (x_move rfl) ?_
    refine st_q (v := .slice a xs.length ca) (x_move rfl) ?_
    refine st_q (v := .int .i64 ((xs.length : Nat) : Int)) (x_lenSl rfl Try.underlying29 rfl) ?_
    refine st_q (v := .bool (decide (i < xs.length))) (x_lssN rfl rfl) ?_
    refine st_nil ?_
    refine kn47 _ _ ?_
    refine cnd (p := i < xs.length) rfl (fun h50 => ?_) (fun h50 => ?_)
    ·
      refine skip ?_
      refine kn43 _ _ ?_
      refine seqK fun Q51 kn52 kr53 ke54 => ?_
      refine blockK fun Q55 kn56 kr57 kx58 kb59 => ?_
      refine seqK fun Q60 kn61 kr62 ke63 => ?_
      refine regionD1 [4, 6] [0, 1, 2, 3, 4, 5, 6, 7] (.one 0 (.one 1 (.one 2 (.one 3 (.one 4 (.one 5 (.one 6 (.one 7 .done)))))))) (by kernel_rfl) (by kernel_rfl) ?_
      intro w64 hx65 hs66
      have hB67 := hB34.ext hx65
      have hF68 := hx65.e hx33 (Nat.le_refl _)
      have hE69 : Below w0.heap.size w0 w64 := hx65.e hE35 (Nat.le_refl _)
      have hz70 := hE69.le
      have hs71 := hx65.size
      have hS72 : Ext w64 w64 := Below.refl _ _
      refine d_q (v := .slice a xs.length ca) rfl rfl (fun _ => x_move rfl) ?_
      refine d_q (v := .int .i64 ((i : Nat) : Int)) rfl rfl (fun _ => x_move rfl) ?_
      obtain ⟨b73, o74, ha75, hc76⟩ := hl.at (by omega)
      refine d_q (v := .pointer (some ⟨b73, o74 + i * 2, none⟩)) rfl rfl (fun _ => x_index' T.sl29 rfl ha75 rfl (by omega)) ?_
      refine d_q (v := .pointer (some ⟨b73, o74 + i * 2, none⟩)) rfl rfl (fun _ => x_field (o := o74 + i * 2) T.fa31_0 rfl) ?_
      refine d_l (v := .int .i64 ((el xs i).1)) rfl rfl rfl (fun v78 hw77 => x_load1 T.na3 rfl ((((hc76.below hE69).elem enT_len (i := i) (by omega)).fld 0 rfl).ext hw77)) ?_
      refine d_q (v := .pointer (some ⟨w0.heap.size, 0, none⟩)) rfl rfl (fun _ => x_field (o := 0) T.fa31_0 rfl) ?_
      refine d_l (v := .int .i64 z.1) rfl rfl rfl (fun v80 hw79 => x_load1 T.na3 rfl ((hB67.one 0 rfl).ext hw79)) ?_
      refine d_q (v := .bool (decide (((el xs i).1) < z.1))) rfl rfl (fun _ => x_lss rfl rfl) ?_
      refine d_done ?_
      refine kn61 _ _ ?_
      refine cnd (p := ((el xs i).1) < z.1) rfl (fun h81 => ?_) (fun h81 => ?_)
      ·
        refine region ?_
        refine st_q (v := .int .i64 ((n : Nat) : Int)) (x_move rfl) ?_
        refine st_q (v := .int .i64 (((n + 1) : Nat) : Int)) (x_addN rfl rfl (by omega)) ?_
        refine st_q (v := .int .i64 (((n + 1) : Nat) : Int)) (x_assign rfl) ?_
        refine st_nil ?_
        refine kn56 _ _ ?_
        refine kn52 _ _ ?_
        refine region ?_
        refine st_q (v := .int .i64 ((i : Nat) : Int)) (x_move rfl) ?_
        refine st_q (v := .int .i64 (((i + 1) : Nat) : Int)) (x_addN rfl rfl (by omega)) ?_
        refine st_q (v := .int .i64 (((i + 1) : Nat) : Int)) (x_assign rfl) ?_
        refine st_nil ?_
        refine kn39 _ ((i + 1), (n + 1)) _ ⟨rfl, rfl, rfl, rfl, trivial⟩ ⟨hF68, ?_⟩ ?_
        ·
          try dsimp only
          first | exact ⟨by omega, by omega, by rw [low_y (by omega) (by assumption), hN]⟩ | exact ⟨by omega, by omega, by rw [low_n (by omega) (by assumption), hN]⟩
        ·
          (try dsimp only); omega
      ·
        refine skip ?_
        refine kn56 _ _ ?_
        refine kn52 _ _ ?_
        refine region ?_
        refine st_q (v := .int .i64 ((i : Nat) : Int)) (x_move rfl) ?_
        refine st_q (v := .int .i64 (((i + 1) : Nat) : Int)) (x_addN rfl rfl (by omega)) ?_
        refine st_q (v := .int .i64 (((i + 1) : Nat) : Int)) (x_assign rfl) ?_
        refine st_nil ?_
        refine kn39 _ ((i + 1), n) _ ⟨rfl, rfl, rfl, rfl, trivial⟩ ⟨hF68, ?_⟩ ?_
        ·
          try dsimp only
          first | exact ⟨by omega, by omega, by rw [low_y (by omega) (by assumption), hN]⟩ | exact ⟨by omega, by omega, by rw [low_n (by omega) (by assumption), hN]⟩
        ·
          (try dsimp only); omega
    ·
      refine exit ?_
      refine ke45 _ _ _ ?_
      refine ke41 _ _ _ ?_
      refine kb29 _ _ ?_
      refine kn18 _ _ ?_
      refine seqK fun Q82 kn83 kr84 ke85 => ?_
      refine region ?_
      refine st_q (v := .int .i64 ((n : Nat) : Int)) (x_move rfl) ?_
      refine st_q (v := .slice a xs.length ca) (x_move rfl) ?_
      refine st_q (v := .agg #[.int .i64 z.1, .int .i64 z.2]) (x_loadA [.int .i64 z.1, .int .i64 z.2] T.ag31 rfl (hB34.cells 0 [.int .i64 z.1, .int .i64 z.2] (cells_at rfl))) ?_
      refine st_c (t_call [.slice a xs.length ca, .agg #[.int .i64 z.1, .int .i64 z.2]] T.cf54 rfl rfl) (has54 xs z _ _ (hl.below hE35)) ?_
      rintro _ w86 ⟨rfl, hx87⟩
      refine ⟨_, rfl, ?_⟩
      have hB88 := hB34.ext hx87
      have hF89 := hx87.e hx33 (Nat.le_refl _)
      have hE90 : Below w0.heap.size w0 w86 := hx87.e hE35 (Nat.le_refl _)
      have hz91 := hE90.le
      have hs92 := hx87.size
      refine st_q (v := .int .i64 ((n : Nat) : Int)) (x_assign rfl) ?_
      refine st_q (v := .bool (hasB xs z)) (x_assign rfl) ?_
      refine st_nil ?_
      refine kn83 _ _ ?_
      refine ret ?_
      refine leave2 (P := Try.prog) (fn := Try.f21) (t := 4) (u := 5) (v := .int .i64 ((n : Nat) : Int)) (v' := .bool (hasB xs z)) rfl rfl rfl ?_
      obtain rfl : i = xs.length := by omega
      rw [List.take_length] at hN
      subst hN
      exact ⟨rfl, hE90⟩

set_option maxHeartbeats 4000000 in
theorem kept22 (xs : List (Int × Int)) (a : Option Addr) (c : Nat) (vb : Value) (w0 : World) (ha : Src w0.heap (.slice a (xs.length + 9) c) (xs.length + 9) 2 (flat enT (xs ++ roomT 9))) (hb : Src w0.heap vb xs.length 2 (flat enT xs)) (hn : xs.length ≤ 8796093021952) : Calls Try.prog 22 #[.slice a xs.length c, vb] w0 fun e w' => e = .returned (.bool true) ∧ Ext w0 w' := by
  have hE0 : Below w0.heap.size w0 w0 := Below.refl _ _
  have hz0 := hE0.le
  obtain ⟨_, hca, hca1⟩ := ha.capl
  obtain ⟨b, cb, rfl, hcb, hcb1⟩ := hb.form
  have hlen : (xs ++ roomT 9).length = xs.length + 9 := by simp
  refine enter Try.func22 rfl 30 Try.ntmps22 rfl ?_
  refine seqK fun Q1 kn2 kr3 ke4 => ?_
  refine region ?_
  refine st_q (v := .bool false) (x_assign rfl) ?_
  refine st_nil ?_
  refine kn2 _ _ ?_
  refine seqK fun Q5 kn6 kr7 ke8 => ?_
  refine region ?_
  refine st_q (v := .slice a xs.length c) (x_move rfl) ?_
  refine st_q (v := .slice b xs.length cb) (x_move rfl) ?_
  refine st_q (v := .int .i64 ((xs.length : Nat) : Int)) (x_lenSl rfl Try.underlying29 rfl) ?_
  refine st_q (v := .int .i64 (((xs.length + 9) : Nat) : Int)) (x_addN rfl rfl (by omega)) ?_
  refine st_q (v := .slice a ((xs.length + 9)) c) (x_sliceHi T.sl29 rfl rfl (by omega)) ?_
  refine st_q (v := .slice a ((xs.length + 9)) c) (x_assign rfl) ?_
  refine st_nil ?_
  refine kn6 _ _ ?_
  refine seqK fun Q9 kn10 kr11 ke12 => ?_
  refine seqK fun Q13 kn14 kr15 ke16 => ?_
  refine region ?_
  refine st_q (v := .int .i64 ((0 : Nat) : Int)) (x_assign rfl) ?_
  refine st_nil ?_
  refine kn14 _ _ ?_
  refine blockK fun Q17 kn18 kr19 kx20 kb21 => ?_
  refine loopK (α := Nat) (fun x => [(0, .slice a xs.length c), (1, .slice b xs.length cb), (5, .slice a ((xs.length + 9)) c), (6, .int .i64 ((x : Nat) : Int))]) (fun x w22 => Ext w0 w22 ∧ x ≤ 9) (fun x => 9 - x) (0) ⟨rfl, rfl, rfl, rfl, trivial⟩ ?_ ?_
  ·
    refine ⟨Below.refl _ _, ?_⟩
    try dsimp only
    exact Nat.zero_le _
  ·
    rintro τ23 i w24 ⟨hx25, hi⟩
    try dsimp only at hi
    have hE26 : Below w0.heap.size w0 w24 := hx25.e hE0 (Nat.le_refl _)
    have hz27 := hE26.le
    have hs28 := hx25.size
    intro Q29 kn30 kr31 ke32
    refine seqK fun Q33 kn34 kr35 ke36 => ?_
    refine seqK fun Q37 kn38 kr39 ke40 => ?_
    refine region ?_
    refine st_q (v := .int .i64 ((i : Nat) : Int)) (x_move rfl) ?_
    refine st_q (v := .bool (decide (i < 9))) (x_lssN rfl rfl) ?_
    refine st_nil ?_
    refine kn38 _ _ ?_
    refine cnd (p := i < 9) rfl (fun h41 => ?_) (fun h41 => ?_)
    ·
      refine skip ?_
      refine kn34 _ _ ?_
      refine seqK fun Q42 kn43 kr44 ke45 => ?_
      refine blockK fun Q46 kn47 kr48 kx49 kb50 => ?_
      refine seqK fun Q51 kn52 kr53 ke54 => ?_
      refine regionD1 [6] [0, 1, 2, 3, 4, 5, 6, 7, 8, 10] (.one 0 (.one 1 (.one 2 (.one 3 (.one 4 (.one 5 (.one 6 (.one 7 (.one 8 (.one 9 (.one 10 .done))))))))))) (by kernel_rfl) (by kernel_rfl) ?_
      intro w55 hx56 hs57
      have hF58 := hx56.e hx25 (Nat.le_refl _)
      have hE59 : Below w0.heap.size w0 w55 := hx56.e hE26 (Nat.le_refl _)
      have hz60 := hE59.le
      have hs61 := hx56.size
      have hS62 : Ext w55 w55 := Below.refl _ _
      refine d_q (v := .slice a ((xs.length + 9)) c) rfl rfl (fun _ => x_move rfl) ?_
      refine d_q (v := .slice b xs.length cb) rfl rfl (fun _ => x_move rfl) ?_
      refine d_q (v := .int .i64 ((xs.length : Nat) : Int)) rfl rfl (fun _ => x_lenSl rfl Try.underlying29 rfl) ?_
      refine d_q (v := .int .i64 ((i : Nat) : Int)) rfl rfl (fun _ => x_move rfl) ?_
      refine d_q (v := .int .i64 (((xs.length + i) : Nat) : Int)) rfl rfl (fun _ => x_addN rfl rfl (by omega)) ?_
      obtain ⟨b63, o64, ha65, hc66⟩ := ha.at (by omega)
      refine d_q (v := .pointer (some ⟨b63, o64 + ((xs.length + i)) * 2, none⟩)) rfl rfl (fun _ => x_index' T.sl29 rfl ha65 rfl (by omega)) ?_
      refine d_l (v := .agg #[.int .i64 ((el (xs ++ roomT 9) ((xs.length + i))).1), .int .i64 ((el (xs ++ roomT 9) ((xs.length + i))).2)]) rfl rfl rfl (fun v68 hw67 => x_loadA [.int .i64 ((el (xs ++ roomT 9) ((xs.length + i))).1), .int .i64 ((el (xs ++ roomT 9) ((xs.length + i))).2)] T.ag31 rfl (((hc66.below hE59).elem enT_len (i := (xs.length + i)) (by omega)).ext hw67)) ?_
      refine d_q (v := .int .i64 ((i : Nat) : Int)) rfl rfl (fun _ => x_move rfl) ?_
      refine d_q (v := .int .i64 ((-70 - ((i : Nat) : Int)))) rfl rfl (fun _ => x_sub rfl rfl ⟨by omega, by omega⟩) ?_
      refine d_e (by decide) (d_c' rfl rfl (t_call [.int .i64 ((-70 - ((i : Nat) : Int))), .int .i64 (-1)] T.cf27 rfl rfl) (thing27 (-70 - ((i : Nat) : Int)) (-1) _) ?_)
      rintro _ w69 ⟨rfl, hx70⟩
      refine ⟨_, rfl, ?_⟩
      have hF71 := hx70.e hF58 (Nat.le_refl _)
      have hE72 : Below w0.heap.size w0 w69 := hx70.e hE59 (Nat.le_refl _)
      have hz73 := hE72.le
      have hs74 := hx70.size
      have hS75 := hS62.trans (hx70.mono hS62.size)
      refine ⟨fun _ => hS75, ?_⟩
      refine d_q (v := .bool (decide (¬ ((el (xs ++ roomT 9) ((xs.length + i))) = ((-70 - ((i : Nat) : Int)), (-1)))))) rfl rfl (fun _ => x_neq2 T.eq2_31 rfl rfl) ?_
      refine d_done ?_
      refine kn52 _ _ ?_
      refine cnd (p := ¬ ((el (xs ++ roomT 9) ((xs.length + i))) = ((-70 - ((i : Nat) : Int)), (-1)))) rfl (fun h76 => ?_) (fun h76 => ?_)
      ·
        exact absurd h76 (by rw [el_append_right, el_roomT (by omega)]; simp)
      ·
        refine skip ?_
        refine kn47 _ _ ?_
        refine kn43 _ _ ?_
        refine region ?_
        refine st_q (v := .int .i64 ((i : Nat) : Int)) (x_move rfl) ?_
        refine st_q (v := .int .i64 (((i + 1) : Nat) : Int)) (x_addN rfl rfl (by omega)) ?_
        refine st_q (v := .int .i64 (((i + 1) : Nat) : Int)) (x_assign rfl) ?_
        refine st_nil ?_
        refine kn30 _ ((i + 1)) _ ⟨rfl, rfl, rfl, rfl, trivial⟩ ⟨hF71, ?_⟩ ?_
        ·
          try dsimp only
          omega
        ·
          (try dsimp only); omega
    ·
      refine exit ?_
      refine ke36 _ _ _ ?_
      refine ke32 _ _ _ ?_
      refine kb21 _ _ ?_
      refine kn10 _ _ ?_
      refine seqK fun Q77 kn78 kr79 ke80 => ?_
      refine region ?_
      refine st_q (v := .slice a xs.length c) (x_move rfl) ?_
      refine st_q (v := .slice b xs.length cb) (x_move rfl) ?_
      refine st_c (t_call [.slice a xs.length c, .slice b xs.length cb] T.cf34 rfl rfl) (same xs xs _ _ _ (by simpa using (ha.below hE26).take enT_len (j := xs.length) (by omega) (by simp)) (hb.below hE26)) ?_
      rintro _ w81 ⟨rfl, hx82⟩
      refine ⟨_, rfl, ?_⟩
      have hF83 := hx82.e hx25 (Nat.le_refl _)
      have hE84 : Below w0.heap.size w0 w81 := hx82.e hE26 (Nat.le_refl _)
      have hz85 := hE84.le
      have hs86 := hx82.size
      refine st_q (v := .bool (decide (xs = xs))) (x_assign rfl) ?_
      refine st_nil ?_
      refine kn78 _ _ ?_
      refine ret ?_
      refine leave1 (P := Try.prog) (fn := Try.f22) (t := 4) (v := .bool (decide (xs = xs))) rfl rfl ?_
      exact ⟨by simp, hE84⟩

end Go.Proofs.Ytgfolockecjlnaa
