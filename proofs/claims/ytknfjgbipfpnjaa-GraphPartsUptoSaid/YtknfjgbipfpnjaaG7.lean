import Derived.Test.YtknfjgbipfpnjaaG6
import Derived.Test.YtknfjgbipfpnjaaGC
namespace Go.Proofs.Ytknfjgbipfpnjaa
open Go.RowKit Go.Eng Go.OrdPure
theorem T.na3 : NA Try.prog 3 := fun _ => by kernel_rfl
theorem T.sl32 : SL Try.prog 32 45 2 24 (.agg #[.string ByteArray.empty, .int .i64 ((0 : Nat) : Int)]) := sl_mk Try.underlying32 (by kernel_rfl) rfl (by decide)
theorem T.ag45 : AG Try.prog 45 2 := fun _ => ⟨by kernel_rfl, by kernel_rfl⟩
theorem T.eqsi_45 : EQSI Try.prog 45 := ⟨⟨_, _, Try.underlying45, rfl, rfl, rfl, rfl, Try.underlying9, Try.underlying3⟩, by kernel_rfl, by kernel_rfl⟩
theorem T.fa45_0 : FA Try.prog 45 0 0 := fun _ _ => by kernel_rfl
theorem T.fa45_1 : FA Try.prog 45 1 1 := fun _ _ => by kernel_rfl
theorem T.sl26 : SL Try.prog 26 22 1 24 (.slice none 0 0) := sl_mk Try.underlying26 (by kernel_rfl) rfl (by decide)
theorem T.cf29 : CF Try.prog 29 := fun _ _ => by kernel_rfl

abbrev Rank := ByteArray × Int
def enR (x : Rank) : List Value := [.string x.1, .int .i64 x.2]
theorem enR_len (x : Rank) : (enR x).length = 2 := rfl
theorem flat_onesR {xs : List Rank} : (flat enR xs).all (·.oneCell') = true := by
  induction xs with
  | nil => rfl
  | cons x xs ih => simp only [flat, List.flatMap_cons, List.all_append] at *; rw [ih]; rfl
def lvl (l : List Rank) (z : ByteArray) : Int := ((l.find? fun x => decide (x.1 = z)).map (·.2)).getD (-1)
theorem lvl_at {xs : List Rank} {z : ByteArray} {i : Nat} (hi : i < xs.length) (h : (el xs i).1.toList = z.toList) (hb : ∀ j, j < i → ¬ (el xs j).1.toList = z.toList) : lvl xs z = (el xs i).2 := by
  have he : (el xs i).1 = z := bytes_ext h
  have e : xs.find? (fun x => decide (x.1 = z)) = some (el xs i) := by
    rw [List.find?_eq_some_iff_getElem]
    refine ⟨by simp [he], i, hi, by rw [el_eq hi], fun j hj => ?_⟩
    have := hb j hj
    rw [el_eq (by omega)] at this
    simp only [Bool.not_eq_eq_eq_not, Bool.not_true, decide_eq_false_iff_not]
    exact fun e => this (by rw [e])
  rw [lvl, e]; rfl
theorem lvl_no {xs : List Rank} {z : ByteArray} (h : ∀ j, j < xs.length → ¬ (el xs j).1.toList = z.toList) : lvl xs z = -1 := by
  have e : xs.find? (fun x => decide (x.1 = z)) = none := by
    rw [List.find?_eq_none]
    intro x hx
    obtain ⟨i, hi, rfl⟩ := List.getElem_of_mem hx
    simp only [decide_eq_true_eq]
    exact fun e => h i hi (by rw [el_eq hi, e])
  rw [lvl, e]; rfl
/-- the rows that stand in a slice of slices -/
structure RowsIn (h : Array Obj) (va : Value) (vs : List Value) (P : List (List ByteArray)) : Prop where
  len : vs.length = P.length
  src : Src h va P.length 1 (flat enV vs)
  row : ∀ i, i < P.length → ∃ q c, el vs i = .slice q (el P i).length c ∧ Src h (.slice q (el P i).length c) (el P i).length 1 (flat enS (el P i))
theorem RowsIn.rowv {h : Array Obj} {va : Value} {vs : List Value} {P : List (List ByteArray)} (hr : RowsIn h va vs P) {i : Nat} (hi : i < P.length) : Src h (el vs i) (el P i).length 1 (flat enS (el P i)) := by
  obtain ⟨q, c, e, hs⟩ := hr.row i hi
  rw [e]; exact hs
def prt (l : List (List ByteArray)) (z : ByteArray) : Int := if l.findIdx (fun x => inB x z) < l.length then ((l.findIdx (fun x => inB x z) : Nat) : Int) else -1
theorem prt_at {xs : List (List ByteArray)} {z : ByteArray} {i k : Nat} (hi : i < xs.length) (hk : k < (el xs i).length) (h : (el (el xs i) k).toList = z.toList) (hb : ∀ j, j < i → ¬ z ∈ el xs j) : prt xs z = ((i : Nat) : Int) := by
  have he : z ∈ el xs i := by rw [← bytes_ext h]; exact el_memS hk
  have e : xs.findIdx (fun x => inB x z) = i := by
    rw [List.findIdx_eq hi]
    refine ⟨by rw [el_eq hi] at he; exact inB_iff.2 he, fun j hj => ?_⟩
    have := hb j hj
    rw [el_eq (by omega)] at this
    cases hh : inB xs[j] z
    · rfl
    · exact absurd (inB_iff.1 hh) this
  rw [prt, e, if_pos hi]
theorem prt_no {xs : List (List ByteArray)} {z : ByteArray} (h : ∀ j, j < xs.length → ¬ z ∈ el xs j) : prt xs z = -1 := by
  rw [prt, if_neg]
  intro hlt
  have := List.findIdx_getElem (w := hlt)
  exact h _ hlt (by rw [el_eq hlt]; exact inB_iff.1 this)
theorem notmem_el {xs : List ByteArray} {z : ByteArray} (h : ∀ j, j < xs.length → ¬ (el xs j).toList = z.toList) : ¬ z ∈ xs := fun hm => h _ (ixS_lt hm) (by rw [ixS_el hm])
theorem el_mark {α : Type} [Inhabited α] {xs : List α} {x : α} : el (xs ++ [x]) xs.length = x := by have := el_append_right (xs := xs) (ys := [x]) (i := 0); rw [Nat.add_zero] at this; rw [this]; rfl
set_option maxHeartbeats 4000000 in
theorem sameInts22 (xs ys : List Nat) (va vb : Value) (w0 : World) (ha : Src w0.heap va xs.length 1 (flat enN xs)) (hb : Src w0.heap vb ys.length 1 (flat enN ys)) : Calls Try.prog 22 #[va, vb] w0 fun e w' => e = .returned (.bool (decide (xs = ys))) ∧ Ext w0 w' := by
  have hE0 : Below w0.heap.size w0 w0 := Below.refl _ _
  have hz0 := hE0.le
  obtain ⟨a, ca, rfl, hca, hca1⟩ := ha.form
  obtain ⟨b, cb, rfl, hcb, hcb1⟩ := hb.form
  refine enter Try.func22 rfl 26 Try.ntmps22 rfl ?_
  refine seqK fun Q1 kn2 kr3 ke4 => ?_
  refine region ?_
  refine st_q (v := .bool false) (x_assign rfl) ?_
  refine st_nil ?_
  refine kn2 _ _ ?_
  refine seqK fun Q5 kn6 kr7 ke8 => ?_
  refine seqK fun Q9 kn10 kr11 ke12 => ?_
  refine region ?_
  refine st_q (v := .slice a xs.length ca) (x_move rfl) ?_
  refine st_q (v := .int .i64 ((xs.length : Nat) : Int)) (x_lenSl rfl Try.underlying38 rfl) ?_
  refine st_q (v := .slice b ys.length cb) (x_move rfl) ?_
  refine st_q (v := .int .i64 ((ys.length : Nat) : Int)) (x_lenSl rfl Try.underlying38 rfl) ?_
  refine st_q (v := .bool (decide (xs.length ≠ ys.length))) (x_neqN rfl rfl) ?_
  refine st_nil ?_
  refine kn10 _ _ ?_
  refine cnd (p := xs.length ≠ ys.length) rfl (fun h13 => ?_) (fun h13 => ?_)
  ·
    refine seqK fun Q14 kn15 kr16 ke17 => ?_
    refine region ?_
    refine st_q (v := .bool false) (x_assign rfl) ?_
    refine st_nil ?_
    refine kn15 _ _ ?_
    refine ret ?_
    refine kr7 _ _ ?_
    refine leave1 (P := Try.prog) (fn := Try.f22) (t := 4) (v := .bool false) rfl rfl ?_
    first | exact ⟨by rw [decide_eq_false fun e => by subst e; contradiction], hE0⟩ | exact ⟨by rw [decide_eq_false (fun e => by subst e; omega)], hE0⟩
  ·
    refine skip ?_
    refine kn6 _ _ ?_
    refine seqK fun Q18 kn19 kr20 ke21 => ?_
    refine seqK fun Q22 kn23 kr24 ke25 => ?_
    refine region ?_
    refine st_q (v := .int .i64 ((0 : Nat) : Int)) (x_assign rfl) ?_
    refine st_nil ?_
    refine kn23 _ _ ?_
    refine blockK fun Q26 kn27 kr28 kx29 kb30 => ?_
    refine loopK (α := Nat) (fun x => [(0, .slice a xs.length ca), (1, .slice b ys.length cb), (5, .int .i64 ((x : Nat) : Int))]) (fun x w31 => Ext w0 w31 ∧ x ≤ xs.length ∧ ∀ j, j < x → el xs j = el ys j) (fun x => xs.length - x) (0) ⟨rfl, rfl, rfl, trivial⟩ ?_ ?_
    ·
      refine ⟨Below.refl _ _, ?_⟩
      try dsimp only
      exact ⟨Nat.zero_le _, fun j h => by omega⟩
    ·
      rintro τ32 i w33 ⟨hx34, ⟨hi, hI⟩⟩
      try dsimp only at hi hI
      have hE35 : Below w0.heap.size w0 w33 := hx34.e hE0 (Nat.le_refl _)
      have hz36 := hE35.le
      have hs37 := hx34.size
      intro Q38 kn39 kr40 ke41
      refine seqK fun Q42 kn43 kr44 ke45 => ?_
      refine seqK fun Q46 kn47 kr48 ke49 => ?_
      refine region ?_
      refine st_q (v := .int .i64 ((i : Nat) : Int)) (x_move rfl) ?_
      refine st_q (v := .slice a xs.length ca) (x_move rfl) ?_
      refine st_q (v := .int .i64 ((xs.length : Nat) : Int)) (x_lenSl rfl Try.underlying38 rfl) ?_
      refine st_q (v := .bool (decide (i < xs.length))) (x_lssN rfl rfl) ?_
      refine st_nil ?_
      refine kn47 _ _ ?_
      refine cnd (p := i < xs.length) rfl (fun h50 => ?_) (fun h50 => ?_)
      ·
        refine skip ?_
        refine kn43 _ _ ?_
        refine seqK fun Q51 kn52 kr53 ke54 => ?_
        refine blockK fun Q55 kn56 kr57 kx58 kb59 => ?_
        refine seqK fun Q60 kn61 kr62 ke63 => ?_
        refine regionD1 [3, 7] [0, 1, 2, 3, 4, 5, 6, 7, 8] (.one 0 (.one 1 (.one 2 (.one 3 (.one 4 (.one 5 (.one 6 (.one 7 (.one 8 .done))))))))) (by kernel_rfl) (by kernel_rfl) ?_
        intro w64 hx65 hs66
        have hF67 := hx65.e hx34 (Nat.le_refl _)
        have hE68 : Below w0.heap.size w0 w64 := hx65.e hE35 (Nat.le_refl _)
        have hz69 := hE68.le
        have hs70 := hx65.size
        have hS71 : Ext w64 w64 := Below.refl _ _
        refine d_q (v := .slice a xs.length ca) rfl rfl (fun _ => x_move rfl) ?_
        refine d_q (v := .int .i64 ((i : Nat) : Int)) rfl rfl (fun _ => x_move rfl) ?_
        obtain ⟨b72, o73, ha74, hc75⟩ := ha.at (by omega)
        refine d_q (v := .pointer (some ⟨b72, o73 + i * 1, none⟩)) rfl rfl (fun _ => x_index' T.sl38 rfl ha74 rfl (by omega)) ?_
        refine d_l (v := .int .i64 (((el xs i) : Nat) : Int)) rfl rfl rfl (fun v77 hw76 => x_load1 T.na3 rfl (((hc75.below hE68).elem enN_len (i := i) (by omega)).ext hw76)) ?_
        refine d_q (v := .slice b ys.length cb) rfl rfl (fun _ => x_move rfl) ?_
        refine d_q (v := .int .i64 ((i : Nat) : Int)) rfl rfl (fun _ => x_move rfl) ?_
        obtain ⟨b78, o79, ha80, hc81⟩ := hb.at (by omega)
        refine d_q (v := .pointer (some ⟨b78, o79 + i * 1, none⟩)) rfl rfl (fun _ => x_index' T.sl38 rfl ha80 rfl (by omega)) ?_
        refine d_l (v := .int .i64 (((el ys i) : Nat) : Int)) rfl rfl rfl (fun v83 hw82 => x_load1 T.na3 rfl (((hc81.below hE68).elem enN_len (i := i) (by omega)).ext hw82)) ?_
        refine d_q (v := .bool (decide (((el xs i)) ≠ ((el ys i))))) rfl rfl (fun _ => x_neqN rfl rfl) ?_
        refine d_done ?_
        refine kn61 _ _ ?_
        refine cnd (p := ((el xs i)) ≠ ((el ys i))) rfl (fun h84 => ?_) (fun h84 => ?_)
        ·
          refine seqK fun Q85 kn86 kr87 ke88 => ?_
          refine region ?_
          refine st_q (v := .bool false) (x_assign rfl) ?_
          refine st_nil ?_
          refine kn86 _ _ ?_
          refine ret ?_
          refine kr57 _ _ ?_
          refine kr53 _ _ ?_
          refine kr40 _ _ ?_
          refine kr28 _ _ ?_
          refine kr20 _ _ ?_
          refine leave1 (P := Try.prog) (fn := Try.f22) (t := 4) (v := .bool false) rfl rfl ?_
          first | exact ⟨by rw [decide_eq_false fun e => by subst e; contradiction], hE68⟩ | exact ⟨by rw [decide_eq_false (fun e => by subst e; omega)], hE68⟩
        ·
          refine skip ?_
          refine kn56 _ _ ?_
          refine kn52 _ _ ?_
          refine region ?_
          refine st_q (v := .int .i64 ((i : Nat) : Int)) (x_move rfl) ?_
          refine st_q (v := .int .i64 (((i + 1) : Nat) : Int)) (x_addN rfl rfl (by omega)) ?_
          refine st_q (v := .int .i64 (((i + 1) : Nat) : Int)) (x_assign rfl) ?_
          refine st_nil ?_
          refine kn39 _ ((i + 1)) _ ⟨rfl, rfl, rfl, trivial⟩ ⟨hF67, ?_⟩ ?_
          ·
            try dsimp only
            exact ⟨by omega, fun j h => by
              by_cases he : j = i
              · subst he; first | exact Decidable.of_not_not (by assumption) | omega
              · exact hI j (by omega)⟩
          ·
            (try dsimp only); omega
      ·
        refine exit ?_
        refine ke45 _ _ _ ?_
        refine ke41 _ _ _ ?_
        refine kb30 _ _ ?_
        refine kn19 _ _ ?_
        refine seqK fun Q89 kn90 kr91 ke92 => ?_
        refine region ?_
        refine st_q (v := .bool true) (x_assign rfl) ?_
        refine st_nil ?_
        refine kn90 _ _ ?_
        refine ret ?_
        refine leave1 (P := Try.prog) (fn := Try.f22) (t := 4) (v := .bool true) rfl rfl ?_
        exact ⟨by rw [decide_eq_true (list_ext_elS (by omega) fun i h => hI i (by omega))], hE35⟩

set_option maxHeartbeats 4000000 in
theorem sameRanks20 (xs ys : List Rank) (va vb : Value) (w0 : World) (ha : Src w0.heap va xs.length 2 (flat enR xs)) (hb : Src w0.heap vb ys.length 2 (flat enR ys)) : Calls Try.prog 20 #[va, vb] w0 fun e w' => e = .returned (.bool (decide (xs = ys))) ∧ Ext w0 w' := by
  have hE0 : Below w0.heap.size w0 w0 := Below.refl _ _
  have hz0 := hE0.le
  obtain ⟨a, ca, rfl, hca, hca1⟩ := ha.form
  obtain ⟨b, cb, rfl, hcb, hcb1⟩ := hb.form
  refine enter Try.func20 rfl 26 Try.ntmps20 rfl ?_
  refine seqK fun Q1 kn2 kr3 ke4 => ?_
  refine region ?_
  refine st_q (v := .bool false) (x_assign rfl) ?_
  refine st_nil ?_
  refine kn2 _ _ ?_
  refine seqK fun Q5 kn6 kr7 ke8 => ?_
  refine seqK fun Q9 kn10 kr11 ke12 => ?_
  refine region ?_
  refine st_q (v := .slice a xs.length ca) (x_move rfl) ?_
  refine st_q (v := .int .i64 ((xs.length : Nat) : Int)) (x_lenSl rfl Try.underlying32 rfl) ?_
  refine st_q (v := .slice b ys.length cb) (x_move rfl) ?_
  refine st_q (v := .int .i64 ((ys.length : Nat) : Int)) (x_lenSl rfl Try.underlying32 rfl) ?_
  refine st_q (v := .bool (decide (xs.length ≠ ys.length))) (x_neqN rfl rfl) ?_
  refine st_nil ?_
  refine kn10 _ _ ?_
  refine cnd (p := xs.length ≠ ys.length) rfl (fun h13 => ?_) (fun h13 => ?_)
  ·
    refine seqK fun Q14 kn15 kr16 ke17 => ?_
    refine region ?_
    refine st_q (v := .bool false) (x_assign rfl) ?_
    refine st_nil ?_
    refine kn15 _ _ ?_
    refine ret ?_
    refine kr7 _ _ ?_
    refine leave1 (P := Try.prog) (fn := Try.f20) (t := 4) (v := .bool false) rfl rfl ?_
    first | exact ⟨by rw [decide_eq_false fun e => by subst e; contradiction], hE0⟩ | exact ⟨by rw [decide_eq_false (fun e => by subst e; omega)], hE0⟩
  ·
    refine skip ?_
    refine kn6 _ _ ?_
    refine seqK fun Q18 kn19 kr20 ke21 => ?_
    refine seqK fun Q22 kn23 kr24 ke25 => ?_
    refine region ?_
    refine st_q (v := .int .i64 ((0 : Nat) : Int)) (x_assign rfl) ?_
    refine st_nil ?_
    refine kn23 _ _ ?_
    refine blockK fun Q26 kn27 kr28 kx29 kb30 => ?_
    refine loopK (α := Nat) (fun x => [(0, .slice a xs.length ca), (1, .slice b ys.length cb), (5, .int .i64 ((x : Nat) : Int))]) (fun x w31 => Ext w0 w31 ∧ x ≤ xs.length ∧ ∀ j, j < x → el xs j = el ys j) (fun x => xs.length - x) (0) ⟨rfl, rfl, rfl, trivial⟩ ?_ ?_
    ·
      refine ⟨Below.refl _ _, ?_⟩
      try dsimp only
      exact ⟨Nat.zero_le _, fun j h => by omega⟩
    ·
      rintro τ32 i w33 ⟨hx34, ⟨hi, hI⟩⟩
      try dsimp only at hi hI
      have hE35 : Below w0.heap.size w0 w33 := hx34.e hE0 (Nat.le_refl _)
      have hz36 := hE35.le
      have hs37 := hx34.size
      intro Q38 kn39 kr40 ke41
      refine seqK fun Q42 kn43 kr44 ke45 => ?_
      refine seqK fun Q46 kn47 kr48 ke49 => ?_
      refine region ?_
      refine st_q (v := .int .i64 ((i : Nat) : Int)) (x_move rfl) ?_
      refine st_q (v := .slice a xs.length ca) (x_move rfl) ?_
      refine st_q (v := .int .i64 ((xs.length : Nat) : Int)) (x_lenSl rfl Try.underlying32 rfl) ?_
      refine st_q (v := .bool (decide (i < xs.length))) (x_lssN rfl rfl) ?_
      refine st_nil ?_
      refine kn47 _ _ ?_
      refine cnd (p := i < xs.length) rfl (fun h50 => ?_) (fun h50 => ?_)
      ·
        refine skip ?_
        refine kn43 _ _ ?_
        refine seqK fun Q51 kn52 kr53 ke54 => ?_
        refine blockK fun Q55 kn56 kr57 kx58 kb59 => ?_
        refine seqK fun Q60 kn61 kr62 ke63 => ?_
        refine regionD1 [3, 7] [0, 1, 2, 3, 4, 5, 6, 7, 8] (.one 0 (.one 1 (.one 2 (.one 3 (.one 4 (.one 5 (.one 6 (.one 7 (.one 8 .done))))))))) (by kernel_rfl) (by kernel_rfl) ?_
        intro w64 hx65 hs66
        have hF67 := hx65.e hx34 (Nat.le_refl _)
        have hE68 : Below w0.heap.size w0 w64 := hx65.e hE35 (Nat.le_refl _)
        have hz69 := hE68.le
        have hs70 := hx65.size
        have hS71 : Ext w64 w64 := Below.refl _ _
        refine d_q (v := .slice a xs.length ca) rfl rfl (fun _ => x_move rfl) ?_
        refine d_q (v := .int .i64 ((i : Nat) : Int)) rfl rfl (fun _ => x_move rfl) ?_
        obtain ⟨b72, o73, ha74, hc75⟩ := ha.at (by omega)
        refine d_q (v := .pointer (some ⟨b72, o73 + i * 2, none⟩)) rfl rfl (fun _ => x_index' T.sl32 rfl ha74 rfl (by omega)) ?_
        refine d_l (v := .agg #[.string ((el xs i).1), .int .i64 ((el xs i).2)]) rfl rfl rfl (fun v77 hw76 => x_loadA [.string ((el xs i).1), .int .i64 ((el xs i).2)] T.ag45 rfl (((hc75.below hE68).elem enR_len (i := i) (by omega)).ext hw76)) ?_
        refine d_q (v := .slice b ys.length cb) rfl rfl (fun _ => x_move rfl) ?_
        refine d_q (v := .int .i64 ((i : Nat) : Int)) rfl rfl (fun _ => x_move rfl) ?_
        obtain ⟨b78, o79, ha80, hc81⟩ := hb.at (by omega)
        refine d_q (v := .pointer (some ⟨b78, o79 + i * 2, none⟩)) rfl rfl (fun _ => x_index' T.sl32 rfl ha80 rfl (by omega)) ?_
        refine d_l (v := .agg #[.string ((el ys i).1), .int .i64 ((el ys i).2)]) rfl rfl rfl (fun v83 hw82 => x_loadA [.string ((el ys i).1), .int .i64 ((el ys i).2)] T.ag45 rfl (((hc81.below hE68).elem enR_len (i := i) (by omega)).ext hw82)) ?_
        refine d_q (v := .bool (decide (¬ ((el xs i) = (el ys i))))) rfl rfl (fun _ => x_neqSI T.eqsi_45 rfl rfl) ?_
        refine d_done ?_
        refine kn61 _ _ ?_
        refine cnd (p := ¬ ((el xs i) = (el ys i))) rfl (fun h84 => ?_) (fun h84 => ?_)
        ·
          refine seqK fun Q85 kn86 kr87 ke88 => ?_
          refine region ?_
          refine st_q (v := .bool false) (x_assign rfl) ?_
          refine st_nil ?_
          refine kn86 _ _ ?_
          refine ret ?_
          refine kr57 _ _ ?_
          refine kr53 _ _ ?_
          refine kr40 _ _ ?_
          refine kr28 _ _ ?_
          refine kr20 _ _ ?_
          refine leave1 (P := Try.prog) (fn := Try.f20) (t := 4) (v := .bool false) rfl rfl ?_
          first | exact ⟨by rw [decide_eq_false fun e => by subst e; contradiction], hE68⟩ | exact ⟨by rw [decide_eq_false (fun e => by subst e; omega)], hE68⟩
        ·
          refine skip ?_
          refine kn56 _ _ ?_
          refine kn52 _ _ ?_
          refine region ?_
          refine st_q (v := .int .i64 ((i : Nat) : Int)) (x_move rfl) ?_
          refine st_q (v := .int .i64 (((i + 1) : Nat) : Int)) (x_addN rfl rfl (by omega)) ?_
          refine st_q (v := .int .i64 (((i + 1) : Nat) : Int)) (x_assign rfl) ?_
          refine st_nil ?_
          refine kn39 _ ((i + 1)) _ ⟨rfl, rfl, rfl, trivial⟩ ⟨hF67, ?_⟩ ?_
          ·
            try dsimp only
            exact ⟨by omega, fun j h => by
              by_cases he : j = i
              · subst he; first | exact Decidable.of_not_not (by assumption) | omega
              · exact hI j (by omega)⟩
          ·
            (try dsimp only); omega
      ·
        refine exit ?_
        refine ke45 _ _ _ ?_
        refine ke41 _ _ _ ?_
        refine kb30 _ _ ?_
        refine kn19 _ _ ?_
        refine seqK fun Q89 kn90 kr91 ke92 => ?_
        refine region ?_
        refine st_q (v := .bool true) (x_assign rfl) ?_
        refine st_nil ?_
        refine kn90 _ _ ?_
        refine ret ?_
        refine leave1 (P := Try.prog) (fn := Try.f20) (t := 4) (v := .bool true) rfl rfl ?_
        exact ⟨by rw [decide_eq_true (list_ext_elS (by omega) fun i h => hI i (by omega))], hE35⟩

set_option maxHeartbeats 4000000 in
theorem level24 (xs : List Rank) (z : ByteArray) (va : Value) (w0 : World) (ha : Src w0.heap va xs.length 2 (flat enR xs)) : Calls Try.prog 24 #[va, .string z] w0 fun e w' => e = .returned (.int .i64 (lvl xs z)) ∧ Ext w0 w' := by
  have hE0 : Below w0.heap.size w0 w0 := Below.refl _ _
  have hz0 := hE0.le
  obtain ⟨a, ca, rfl, hca, hca1⟩ := ha.form
  refine enter Try.func24 rfl 24 Try.ntmps24 rfl ?_
  refine seqK fun Q1 kn2 kr3 ke4 => ?_
  refine region ?_
  refine st_q (v := .int .i64 ((0 : Nat) : Int)) (x_assign rfl) ?_
  refine st_nil ?_
  refine kn2 _ _ ?_
  refine seqK fun Q5 kn6 kr7 ke8 => ?_
  refine seqK fun Q9 kn10 kr11 ke12 => ?_
  refine region ?_
  refine st_q (v := .int .i64 ((0 : Nat) : Int)) (x_assign rfl) ?_
  refine st_nil ?_
  refine kn10 _ _ ?_
  refine blockK fun Q13 kn14 kr15 kx16 kb17 => ?_
  refine loopK (α := Nat) (fun x => [(0, .slice a xs.length ca), (1, .string z), (5, .int .i64 ((x : Nat) : Int))]) (fun x w18 => Ext w0 w18 ∧ x ≤ xs.length ∧ ∀ j, j < x → ¬ (el xs j).1.toList = z.toList) (fun x => xs.length - x) (0) ⟨rfl, rfl, rfl, trivial⟩ ?_ ?_
  ·
    refine ⟨Below.refl _ _, ?_⟩
    try dsimp only
    exact ⟨Nat.zero_le _, fun j h => by omega⟩
  ·
    rintro τ19 i w20 ⟨hx21, ⟨hi, hI⟩⟩
    try dsimp only at hi hI
    have hE22 : Below w0.heap.size w0 w20 := hx21.e hE0 (Nat.le_refl _)
    have hz23 := hE22.le
    have hs24 := hx21.size
    intro Q25 kn26 kr27 ke28
    refine seqK fun Q29 kn30 kr31 ke32 => ?_
    refine seqK fun Q33 kn34 kr35 ke36 => ?_
    refine region ?_
    refine st_q (v := .int .i64 ((i : Nat) : Int)) (x_move rfl) ?_
    refine st_q (v := .slice a xs.length ca) (x_move rfl) ?_
    refine st_q (v := .int .i64 ((xs.length : Nat) : Int)) (x_lenSl rfl Try.underlying32 rfl) ?_
    refine st_q (v := .bool (decide (i < xs.length))) (x_lssN rfl rfl) ?_
    refine st_nil ?_
    refine kn34 _ _ ?_
    refine cnd (p := i < xs.length) rfl (fun h37 => ?_) (fun h37 => ?_)
    ·
      refine skip ?_
      refine kn30 _ _ ?_
      refine seqK fun Q38 kn39 kr40 ke41 => ?_
      refine blockK fun Q42 kn43 kr44 kx45 kb46 => ?_
      refine seqK fun Q47 kn48 kr49 ke50 => ?_
      refine region ?_
      refine st_q (v := .slice a xs.length ca) (x_move rfl) ?_
      refine st_q (v := .int .i64 ((i : Nat) : Int)) (x_move rfl) ?_
      obtain ⟨b51, o52, ha53, hc54⟩ := ha.at (by omega)
      refine st_q (v := .pointer (some ⟨b51, o52 + i * 2, none⟩)) (x_index' T.sl32 rfl ha53 rfl (by omega)) ?_
      refine st_q (v := .pointer (some ⟨b51, o52 + i * 2, none⟩)) (x_field (o := o52 + i * 2) T.fa45_0 rfl) ?_
      refine st_q (v := .string ((el xs i).1)) (x_load1 T.na9 rfl (((hc54.below hE22).elem enR_len (i := i) (by omega)).fld 0 rfl)) ?_
      refine st_q (v := .string z) (x_move rfl) ?_
      refine st_q (v := .bool (decide (((el xs i).1).toList = z.toList))) (x_eqlS rfl rfl) ?_
      refine st_nil ?_
      refine kn48 _ _ ?_
      refine cnd (p := ((el xs i).1).toList = z.toList) rfl (fun h55 => ?_) (fun h55 => ?_)
      ·
        refine seqK fun Q56 kn57 kr58 ke59 => ?_
        refine region ?_
        refine st_q (v := .slice a xs.length ca) (x_move rfl) ?_
        refine st_q (v := .int .i64 ((i : Nat) : Int)) (x_move rfl) ?_
        refine st_q (v := .pointer (some ⟨b51, o52 + i * 2, none⟩)) (x_index' T.sl32 rfl ha53 rfl (by omega)) ?_
        refine st_q (v := .pointer (some ⟨b51, o52 + i * 2 + 1, none⟩)) (x_field (o := o52 + i * 2) T.fa45_1 rfl) ?_
        refine st_q (v := .int .i64 ((el xs i).2)) (x_load1 T.na3 rfl (((hc54.below hE22).elem enR_len (i := i) (by omega)).fld 1 rfl)) ?_
        refine st_q (v := .int .i64 ((el xs i).2)) (x_assign rfl) ?_
        refine st_nil ?_
        refine kn57 _ _ ?_
        refine ret ?_
        refine kr44 _ _ ?_
        refine kr40 _ _ ?_
        refine kr27 _ _ ?_
        refine kr15 _ _ ?_
        refine kr7 _ _ ?_
        refine leave1 (P := Try.prog) (fn := Try.f24) (t := 4) (v := .int .i64 ((el xs i).2)) rfl rfl ?_
        exact ⟨by rw [lvl_at (by omega) (by assumption) hI], hE22⟩
      ·
        refine skip ?_
        refine kn43 _ _ ?_
        refine kn39 _ _ ?_
        refine region ?_
        refine st_q (v := .int .i64 ((i : Nat) : Int)) (x_move rfl) ?_
        refine st_q (v := .int .i64 (((i + 1) : Nat) : Int)) (x_addN rfl rfl (by omega)) ?_
        refine st_q (v := .int .i64 (((i + 1) : Nat) : Int)) (x_assign rfl) ?_
        refine st_nil ?_
        refine kn26 _ ((i + 1)) _ ⟨rfl, rfl, rfl, trivial⟩ ⟨hx21, ?_⟩ ?_
        ·
          try dsimp only
          exact ⟨by omega, fun j h => by
            by_cases he : j = i
            · subst he; assumption
            · exact hI j (by omega)⟩
        ·
          (try dsimp only); omega
    ·
      refine exit ?_
      refine ke32 _ _ _ ?_
      refine ke28 _ _ _ ?_
      refine kb17 _ _ ?_
      refine kn6 _ _ ?_
      refine seqK fun Q60 kn61 kr62 ke63 => ?_
      refine region ?_
      refine st_q (v := .int .i64 (-1)) (x_assign rfl) ?_
      refine st_nil ?_
      refine kn61 _ _ ?_
      refine ret ?_
      refine leave1 (P := Try.prog) (fn := Try.f24) (t := 4) (v := .int .i64 (-1)) rfl rfl ?_
      exact ⟨by rw [lvl_no (fun j hj => hI j (by omega))], hE22⟩

set_option maxHeartbeats 4000000 in
theorem sameParts13 (P Q : List (List ByteArray)) (vs us : List Value) (va vb : Value) (w0 : World) (hP : RowsIn w0.heap va vs P) (hQ : RowsIn w0.heap vb us Q) : Calls Try.prog 13 #[va, vb] w0 fun e w' => e = .returned (.bool (decide (P = Q))) ∧ Ext w0 w' := by
  have hE0 : Below w0.heap.size w0 w0 := Below.refl _ _
  have hz0 := hE0.le
  have hva := hP.len
  have hvb := hQ.len
  obtain ⟨a, ca, rfl, hca, hca1⟩ := hP.src.form
  obtain ⟨b, cb, rfl, hcb, hcb1⟩ := hQ.src.form
  refine enter Try.func13 rfl 27 Try.ntmps13 rfl ?_
  refine seqK fun Q1 kn2 kr3 ke4 => ?_
  refine region ?_
  refine st_q (v := .bool false) (x_assign rfl) ?_
  refine st_nil ?_
  refine kn2 _ _ ?_
  refine seqK fun Q5 kn6 kr7 ke8 => ?_
  refine seqK fun Q9 kn10 kr11 ke12 => ?_
  refine region ?_
  refine st_q (v := .slice a P.length ca) (x_move rfl) ?_
  refine st_q (v := .int .i64 ((P.length : Nat) : Int)) (x_lenSl rfl Try.underlying26 rfl) ?_
  refine st_q (v := .slice b Q.length cb) (x_move rfl) ?_
  refine st_q (v := .int .i64 ((Q.length : Nat) : Int)) (x_lenSl rfl Try.underlying26 rfl) ?_
  refine st_q (v := .bool (decide (P.length ≠ Q.length))) (x_neqN rfl rfl) ?_
  refine st_nil ?_
  refine kn10 _ _ ?_
  refine cnd (p := P.length ≠ Q.length) rfl (fun h13 => ?_) (fun h13 => ?_)
  ·
    refine seqK fun Q14 kn15 kr16 ke17 => ?_
    refine region ?_
    refine st_q (v := .bool false) (x_assign rfl) ?_
    refine st_nil ?_
    refine kn15 _ _ ?_
    refine ret ?_
    refine kr7 _ _ ?_
    refine leave1 (P := Try.prog) (fn := Try.f13) (t := 4) (v := .bool false) rfl rfl ?_
    first | exact ⟨by rw [decide_eq_false fun e => by subst e; contradiction], hE0⟩ | exact ⟨by rw [decide_eq_false (fun e => by subst e; omega)], hE0⟩
  ·
    refine skip ?_
    refine kn6 _ _ ?_
    refine seqK fun Q18 kn19 kr20 ke21 => ?_
    refine seqK fun Q22 kn23 kr24 ke25 => ?_
    refine region ?_
    refine st_q (v := .int .i64 ((0 : Nat) : Int)) (x_assign rfl) ?_
    refine st_nil ?_
    refine kn23 _ _ ?_
    refine blockK fun Q26 kn27 kr28 kx29 kb30 => ?_
    refine loopK (α := Nat) (fun x => [(0, .slice a P.length ca), (1, .slice b Q.length cb), (5, .int .i64 ((x : Nat) : Int))]) (fun x w31 => Ext w0 w31 ∧ x ≤ P.length ∧ ∀ j, j < x → el P j = el Q j) (fun x => P.length - x) (0) ⟨rfl, rfl, rfl, trivial⟩ ?_ ?_
    ·
      refine ⟨Below.refl _ _, ?_⟩
      try dsimp only
      exact ⟨Nat.zero_le _, fun j h => by omega⟩
    ·
      rintro τ32 i w33 ⟨hx34, ⟨hi, hI⟩⟩
      try dsimp only at hi hI
      have hE35 : Below w0.heap.size w0 w33 := hx34.e hE0 (Nat.le_refl _)
      have hz36 := hE35.le
      have hs37 := hx34.size
      intro Q38 kn39 kr40 ke41
      refine seqK fun Q42 kn43 kr44 ke45 => ?_
      refine seqK fun Q46 kn47 kr48 ke49 => ?_
      refine region ?_
      refine st_q (v := .int .i64 ((i : Nat) : Int)) (x_move rfl) ?_
      refine st_q (v := .slice a P.length ca) (x_move rfl) ?_
      refine st_q (v := .int .i64 ((P.length : Nat) : Int)) (x_lenSl rfl Try.underlying26 rfl) ?_
      refine st_q (v := .bool (decide (i < P.length))) (x_lssN rfl rfl) ?_
      refine st_nil ?_
      refine kn47 _ _ ?_
      refine cnd (p := i < P.length) rfl (fun h50 => ?_) (fun h50 => ?_)
      ·
        refine skip ?_
        refine kn43 _ _ ?_
        refine seqK fun Q51 kn52 kr53 ke54 => ?_
        refine blockK fun Q55 kn56 kr57 kx58 kb59 => ?_
        refine seqK fun Q60 kn61 kr62 ke63 => ?_
        refine regionD1 [3, 7] [0, 1, 2, 3, 4, 5, 6, 7, 9] (.one 0 (.one 1 (.one 2 (.one 3 (.one 4 (.one 5 (.one 6 (.one 7 (.one 8 (.one 9 .done)))))))))) (by kernel_rfl) (by kernel_rfl) ?_
        intro w64 hx65 hs66
        have hF67 := hx65.e hx34 (Nat.le_refl _)
        have hE68 : Below w0.heap.size w0 w64 := hx65.e hE35 (Nat.le_refl _)
        have hz69 := hE68.le
        have hs70 := hx65.size
        have hS71 : Ext w64 w64 := Below.refl _ _
        refine d_q (v := .slice a P.length ca) rfl rfl (fun _ => x_move rfl) ?_
        refine d_q (v := .int .i64 ((i : Nat) : Int)) rfl rfl (fun _ => x_move rfl) ?_
        obtain ⟨b72, o73, ha74, hc75⟩ := hP.src.at (by omega)
        refine d_q (v := .pointer (some ⟨b72, o73 + i * 1, none⟩)) rfl rfl (fun _ => x_index' T.sl26 rfl ha74 rfl (by omega)) ?_
        refine d_l (v := el vs i) rfl rfl rfl (fun v77 hw76 => x_load1 T.na22 rfl (((hc75.below hE68).elem enV_len (i := i) (by omega)).ext hw76)) ?_
        refine d_q (v := .slice b Q.length cb) rfl rfl (fun _ => x_move rfl) ?_
        refine d_q (v := .int .i64 ((i : Nat) : Int)) rfl rfl (fun _ => x_move rfl) ?_
        obtain ⟨b78, o79, ha80, hc81⟩ := hQ.src.at (by omega)
        refine d_q (v := .pointer (some ⟨b78, o79 + i * 1, none⟩)) rfl rfl (fun _ => x_index' T.sl26 rfl ha80 rfl (by omega)) ?_
        refine d_l (v := el us i) rfl rfl rfl (fun v83 hw82 => x_load1 T.na22 rfl (((hc81.below hE68).elem enV_len (i := i) (by omega)).ext hw82)) ?_
        refine d_e (by decide) (d_c' rfl rfl (t_call [el vs i, el us i] T.cf29 rfl rfl) (same29 (el P i) (el Q i) _ _ _ (((hP.rowv (by omega)).below hE0).below hE68) (((hQ.rowv (by omega)).below hE0).below hE68)) ?_)
        rintro _ w84 ⟨rfl, hx85⟩
        refine ⟨_, rfl, ?_⟩
        have hF86 := hx85.e hF67 (Nat.le_refl _)
        have hE87 : Below w0.heap.size w0 w84 := hx85.e hE68 (Nat.le_refl _)
        have hz88 := hE87.le
        have hs89 := hx85.size
        have hS90 := hS71.trans (hx85.mono hS71.size)
        refine ⟨fun _ => hS90, ?_⟩
        refine d_q (v := .bool (decide (¬ (el P i = el Q i)))) rfl rfl (fun _ => x_notP rfl) ?_
        refine d_done ?_
        refine kn61 _ _ ?_
        refine cnd (p := ¬ (el P i = el Q i)) rfl (fun h91 => ?_) (fun h91 => ?_)
        ·
          refine seqK fun Q92 kn93 kr94 ke95 => ?_
          refine region ?_
          refine st_q (v := .bool false) (x_assign rfl) ?_
          refine st_nil ?_
          refine kn93 _ _ ?_
          refine ret ?_
          refine kr57 _ _ ?_
          refine kr53 _ _ ?_
          refine kr40 _ _ ?_
          refine kr28 _ _ ?_
          refine kr20 _ _ ?_
          refine leave1 (P := Try.prog) (fn := Try.f13) (t := 4) (v := .bool false) rfl rfl ?_
          first | exact ⟨by rw [decide_eq_false fun e => by subst e; contradiction], hE87⟩ | exact ⟨by rw [decide_eq_false (fun e => by subst e; omega)], hE87⟩
        ·
          refine skip ?_
          refine kn56 _ _ ?_
          refine kn52 _ _ ?_
          refine region ?_
          refine st_q (v := .int .i64 ((i : Nat) : Int)) (x_move rfl) ?_
          refine st_q (v := .int .i64 (((i + 1) : Nat) : Int)) (x_addN rfl rfl (by omega)) ?_
          refine st_q (v := .int .i64 (((i + 1) : Nat) : Int)) (x_assign rfl) ?_
          refine st_nil ?_
          refine kn39 _ ((i + 1)) _ ⟨rfl, rfl, rfl, trivial⟩ ⟨hF86, ?_⟩ ?_
          ·
            try dsimp only
            exact ⟨by omega, fun j h => by
              by_cases he : j = i
              · subst he; exact Decidable.of_not_not (by assumption)
              · exact hI j (by omega)⟩
          ·
            (try dsimp only); omega
      ·
        refine exit ?_
        refine ke45 _ _ _ ?_
        refine ke41 _ _ _ ?_
        refine kb30 _ _ ?_
        refine kn19 _ _ ?_
        refine seqK fun Q96 kn97 kr98 ke99 => ?_
        refine region ?_
        refine st_q (v := .bool true) (x_assign rfl) ?_
        refine st_nil ?_
        refine kn97 _ _ ?_
        refine ret ?_
        refine leave1 (P := Try.prog) (fn := Try.f13) (t := 4) (v := .bool true) rfl rfl ?_
        exact ⟨by rw [decide_eq_true (list_ext_elS (by omega) fun i h => hI i (by omega))], hE35⟩

end Go.Proofs.Ytknfjgbipfpnjaa
