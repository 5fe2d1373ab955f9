import Derived.Test.YtknfjgbipfpnjaaRows
import Derived.Test.YtknfjgbipfpnjaaSli
import Derived.Test.YtknfjgbipfpnjaaGB
import Derived.Test.YtknfjgbipfpnjaaOrdPure
namespace Go.Proofs.Ytknfjgbipfpnjaa
open Go.RowKit Go.Eng Go.OrdPure
def enS (x : ByteArray) : List Value := [.string x]
theorem enS_len (x : ByteArray) : (enS x).length = 1 := rfl
theorem flat_onesS {xs : List ByteArray} : (flat enS xs).all (·.oneCell') = true := by
  induction xs with
  | nil => rfl
  | cons x xs ih => simp only [flat, List.flatMap_cons, List.all_append] at *; rw [ih]; rfl
abbrev Edge := ByteArray × ByteArray × Bool
def enE (x : Edge) : List Value := [.string x.1, .string x.2.1, .bool x.2.2]
theorem enE_len (x : Edge) : (enE x).length = 3 := rfl
theorem flat_onesE {xs : List Edge} : (flat enE xs).all (·.oneCell') = true := by
  induction xs with
  | nil => rfl
  | cons x xs ih => simp only [flat, List.flatMap_cons, List.all_append] at *; rw [ih]; rfl
def turn (x : Edge) : Edge := (x.2.1, x.1, x.2.2)
theorem list_ext_elS {α : Type} [Inhabited α] {xs ys : List α} (hl : xs.length = ys.length) (h : ∀ i, i < xs.length → el xs i = el ys i) : xs = ys := by
  refine List.ext_getElem hl fun i h1 h2 => ?_
  have := h i h1
  rwa [el_eq h1, el_eq h2] at this
theorem T.sl22 : SL Try.prog 22 9 1 16 (.string ByteArray.empty) := sl_mk Try.underlying22 (by kernel_rfl) rfl (by decide)
theorem T.na9 : NA Try.prog 9 := fun _ => by kernel_rfl
theorem T.sl23 : SL Try.prog 23 47 3 40 (.agg #[.string ByteArray.empty, .string ByteArray.empty, .bool false]) := sl_mk Try.underlying23 (by kernel_rfl) rfl (by decide)
theorem T.ag47 : AG Try.prog 47 3 := fun _ => ⟨by kernel_rfl, by kernel_rfl⟩
theorem T.eq3_47 : EQ3 Try.prog 47 := ⟨⟨_, _, _, Try.underlying47, rfl, rfl, rfl, rfl, rfl, rfl, Try.underlying9, Try.underlying9, Try.underlying4⟩, by kernel_rfl, by kernel_rfl⟩
theorem T.fa47_1 : FA Try.prog 47 1 1 := fun _ _ => by kernel_rfl
theorem T.fa47_0 : FA Try.prog 47 0 0 := fun _ _ => by kernel_rfl
theorem T.fa47_2 : FA Try.prog 47 2 2 := fun _ _ => by kernel_rfl
theorem T.na4 : NA Try.prog 4 := fun _ => by kernel_rfl

theorem ne_toList {a b : ByteArray} (h : a.toList ≠ b.toList) : a ≠ b := fun e => h (by rw [e])
def pl (xs : List ByteArray) (z : ByteArray) : Int := if xs.findIdx (fun x => decide (x = z)) < xs.length then ((xs.findIdx (fun x => decide (x = z)) : Nat) : Int) else -1
def inB (xs : List ByteArray) (z : ByteArray) : Bool := xs.any fun x => decide (x = z)
theorem inB_iff {xs : List ByteArray} {z : ByteArray} : inB xs z = true ↔ z ∈ xs := by simp [inB]
theorem pl_at {xs : List ByteArray} {z : ByteArray} {i : Nat} (hi : i < xs.length) (h : (el xs i).toList = z.toList) (hb : ∀ j, j < i → ¬ (el xs j).toList = z.toList) : pl xs z = ((i : Nat) : Int) := by
  have he : el xs i = z := bytes_ext h
  have e : xs.findIdx (fun x => decide (x = z)) = i := by
    rw [List.findIdx_eq hi]
    refine ⟨by rw [el_eq hi] at he; simp [he], fun j hj => ?_⟩
    have := hb j hj
    rw [el_eq (by omega)] at this
    simp only [decide_eq_false_iff_not]
    exact fun e => this (by rw [e])
  rw [pl, e, if_pos hi]
theorem pl_no {xs : List ByteArray} {z : ByteArray} (h : ∀ j, j < xs.length → ¬ (el xs j).toList = z.toList) : pl xs z = -1 := by
  rw [pl, if_neg]
  intro hlt
  have := List.findIdx_getElem (w := hlt)
  simp only [decide_eq_true_eq] at this
  exact h _ hlt (by rw [el_eq hlt, this])
theorem inB_f {xs : List ByteArray} {z : ByteArray} (h : ∀ j, j < xs.length → ¬ (el xs j).toList = z.toList) : inB xs z = false := by
  rw [inB, List.any_eq_false]
  intro x hx
  obtain ⟨i, hi, rfl⟩ := List.getElem_of_mem hx
  simp only [decide_eq_true_eq]
  exact fun e => h i hi (by rw [el_eq hi, e])
theorem inB_t {xs : List ByteArray} {z : ByteArray} {i : Nat} (hi : i < xs.length) (h : (el xs i).toList = z.toList) : inB xs z = true := inB_iff.2 (by rw [← bytes_ext h, el_eq hi]; exact List.getElem_mem _)
set_option maxHeartbeats 4000000 in
theorem same29 (xs ys : List ByteArray) (va vb : Value) (w0 : World) (ha : Src w0.heap va xs.length 1 (flat enS xs)) (hb : Src w0.heap vb ys.length 1 (flat enS ys)) : Calls Try.prog 29 #[va, vb] w0 fun e w' => e = .returned (.bool (decide (xs = ys))) ∧ Ext w0 w' := by
  have hE0 : Below w0.heap.size w0 w0 := Below.refl _ _
  have hz0 := hE0.le
  obtain ⟨a, ca, rfl, hca, hca1⟩ := ha.form
  obtain ⟨b, cb, rfl, hcb, hcb1⟩ := hb.form
  refine enter Try.func29 rfl 26 Try.ntmps29 rfl ?_
  refine seqK fun Q1 kn2 kr3 ke4 => ?_
  refine region ?_
  refine st_q (v := .bool false) (x_assign rfl) ?_
  refine st_nil ?_
  refine kn2 _ _ ?_
  refine seqK fun Q5 kn6 kr7 ke8 => ?_
  refine seqK fun Q9 kn10 kr11 ke12 => ?_
  refine region ?_
  refine st_q (v := .slice a xs.length ca) (x_move rfl) ?_
  refine st_q (v := .int .i64 ((xs.length : Nat) : Int)) (x_lenSl rfl Try.underlying22 rfl) ?_
  refine st_q (v := .slice b ys.length cb) (x_move rfl) ?_
  refine st_q (v := .int .i64 ((ys.length : Nat) : Int)) (x_lenSl rfl Try.underlying22 rfl) ?_
  refine st_q (v := .bool (decide (xs.length ≠ ys.length))) (x_neqN rfl rfl) ?_
  refine st_nil ?_
  refine kn10 _ _ ?_
  refine cnd (p := xs.length ≠ ys.length) rfl (fun h13 => ?_) (fun h13 => ?_)
  ·
    refine seqK fun Q14 kn15 kr16 ke17 => ?_
    refine region ?_
    refine st_q (v := .bool false) (x_assign rfl) ?_
    refine st_nil ?_
    refine kn15 _ _ ?_
    refine ret ?_
    refine kr7 _ _ ?_
    refine leave1 (P := Try.prog) (fn := Try.f29) (t := 4) (v := .bool false) rfl rfl ?_
    first | exact ⟨by rw [decide_eq_false fun e => by subst e; contradiction], hE0⟩ | exact ⟨by rw [decide_eq_false (fun e => by subst e; omega)], hE0⟩
  ·
    refine skip ?_
    refine kn6 _ _ ?_
    refine seqK fun Q18 kn19 kr20 ke21 => ?_
    refine seqK fun Q22 kn23 kr24 ke25 => ?_
    refine region ?_
    refine st_q (v := .int .i64 ((0 : Nat) : Int)) (x_assign rfl) ?_
    refine st_nil ?_
    refine kn23 _ _ ?_
    refine blockK fun Q26 kn27 kr28 kx29 kb30 => ?_
    refine loopK (α := Nat) (fun x => [(0, .slice a xs.length ca), (1, .slice b ys.length cb), (5, .int .i64 ((x : Nat) : Int))]) (fun x w31 => Ext w0 w31 ∧ x ≤ xs.length ∧ ∀ j, j < x → el xs j = el ys j) (fun x => xs.length - x) (0) ⟨rfl, rfl, rfl, trivial⟩ ?_ ?_
    ·
      refine ⟨Below.refl _ _, ?_⟩
      try dsimp only
      exact ⟨Nat.zero_le _, fun j h => by omega⟩
    ·
      rintro τ32 i w33 ⟨hx34, ⟨hi, hI⟩⟩
      try dsimp only at hi hI
      have hE35 : Below w0.heap.size w0 w33 := hx34.e hE0 (Nat.le_refl _)
      have hz36 := hE35.le
      have hs37 := hx34.size
      intro Q38 kn39 kr40 ke41
      refine seqK fun Q42 kn43 kr44 ke45 => ?_
      refine seqK fun Q46 kn47 kr48 ke49 => ?_
      refine region ?_
      refine st_q (v := .int .i64 ((i : Nat) : Int)) (x_move rfl) ?_
      refine st_q (v := .slice a xs.length ca) (x_move rfl) ?_
      refine st_q (v := .int .i64 ((xs.length : Nat) : Int)) (x_lenSl rfl Try.underlying22 rfl) ?_
      refine st_q (v := .bool (decide (i < xs.length))) (x_lssN rfl rfl) ?_
      refine st_nil ?_
      refine kn47 _ _ ?_
      refine cnd (p := i < xs.length) rfl (fun h50 => ?_) (fun h50 => ?_)
      ·
        refine skip ?_
        refine kn43 _ _ ?_
        refine seqK fun Q51 kn52 kr53 ke54 => ?_
        refine blockK fun Q55 kn56 kr57 kx58 kb59 => ?_
        refine seqK fun Q60 kn61 kr62 ke63 => ?_
        refine regionD1 [3, 7] [0, 1, 2, 3, 4, 5, 6, 7, 8] (.one 0 (.one 1 (.one 2 (.one 3 (.one 4 (.one 5 (.one 6 (.one 7 (.one 8 .done))))))))) (by kernel_rfl) (by kernel_rfl) ?_
        intro w64 hx65 hs66
        have hF67 := hx65.e hx34 (Nat.le_refl _)
        have hE68 : Below w0.heap.size w0 w64 := hx65.e hE35 (Nat.le_refl _)
        have hz69 := hE68.le
        have hs70 := hx65.size
        have hS71 : Ext w64 w64 := Below.refl _ _
        refine d_q (v := .slice a xs.length ca) rfl rfl (fun _ => x_move rfl) ?_
        refine d_q (v := .int .i64 ((i : Nat) : Int)) rfl rfl (fun _ => x_move rfl) ?_
        obtain ⟨b72, o73, ha74, hc75⟩ := ha.at (by omega)
        refine d_q (v := .pointer (some ⟨b72, o73 + i * 1, none⟩)) rfl rfl (fun _ => x_index' T.sl22 rfl ha74 rfl (by omega)) ?_
        refine d_l (v := .string (el xs i)) rfl rfl rfl (fun v77 hw76 => x_load1 T.na9 rfl (((hc75.below hE68).elem enS_len (i := i) (by omega)).ext hw76)) ?_
        refine d_q (v := .slice b ys.length cb) rfl rfl (fun _ => x_move rfl) ?_
        refine d_q (v := .int .i64 ((i : Nat) : Int)) rfl rfl (fun _ => x_move rfl) ?_
        obtain ⟨b78, o79, ha80, hc81⟩ := hb.at (by omega)
        refine d_q (v := .pointer (some ⟨b78, o79 + i * 1, none⟩)) rfl rfl (fun _ => x_index' T.sl22 rfl ha80 rfl (by omega)) ?_
        refine d_l (v := .string (el ys i)) rfl rfl rfl (fun v83 hw82 => x_load1 T.na9 rfl (((hc81.below hE68).elem enS_len (i := i) (by omega)).ext hw82)) ?_
        refine d_q (v := .bool (decide ((el xs i).toList ≠ (el ys i).toList))) rfl rfl (fun _ => x_neqS rfl rfl) ?_
        refine d_done ?_
        refine kn61 _ _ ?_
        refine cnd (p := (el xs i).toList ≠ (el ys i).toList) rfl (fun h84 => ?_) (fun h84 => ?_)
        ·
          refine seqK fun Q85 kn86 kr87 ke88 => ?_
          refine region ?_
          refine st_q (v := .bool false) (x_assign rfl) ?_
          refine st_nil ?_
          refine kn86 _ _ ?_
          refine ret ?_
          refine kr57 _ _ ?_
          refine kr53 _ _ ?_
          refine kr40 _ _ ?_
          refine kr28 _ _ ?_
          refine kr20 _ _ ?_
          refine leave1 (P := Try.prog) (fn := Try.f29) (t := 4) (v := .bool false) rfl rfl ?_
          first | exact ⟨by rw [decide_eq_false fun e => by subst e; contradiction], hE68⟩ | exact ⟨by rw [decide_eq_false (fun e => by subst e; omega)], hE68⟩
        ·
          refine skip ?_
          refine kn56 _ _ ?_
          refine kn52 _ _ ?_
          refine region ?_
          refine st_q (v := .int .i64 ((i : Nat) : Int)) (x_move rfl) ?_
          refine st_q (v := .int .i64 (((i + 1) : Nat) : Int)) (x_addN rfl rfl (by omega)) ?_
          refine st_q (v := .int .i64 (((i + 1) : Nat) : Int)) (x_assign rfl) ?_
          refine st_nil ?_
          refine kn39 _ ((i + 1)) _ ⟨rfl, rfl, rfl, trivial⟩ ⟨hF67, ?_⟩ ?_
          ·
            try dsimp only
            exact ⟨by omega, fun j h => by
              by_cases he : j = i
              · subst he; exact bytes_ext (Decidable.of_not_not (by assumption))
              · exact hI j (by omega)⟩
          ·
            (try dsimp only); omega
      ·
        refine exit ?_
        refine ke45 _ _ _ ?_
        refine ke41 _ _ _ ?_
        refine kb30 _ _ ?_
        refine kn19 _ _ ?_
        refine seqK fun Q89 kn90 kr91 ke92 => ?_
        refine region ?_
        refine st_q (v := .bool true) (x_assign rfl) ?_
        refine st_nil ?_
        refine kn90 _ _ ?_
        refine ret ?_
        refine leave1 (P := Try.prog) (fn := Try.f29) (t := 4) (v := .bool true) rfl rfl ?_
        exact ⟨by rw [decide_eq_true (list_ext_elS (by omega) fun i h => hI i (by omega))], hE35⟩

set_option maxHeartbeats 4000000 in
theorem place44 (xs : List ByteArray) (z : ByteArray) (va : Value) (w0 : World) (ha : Src w0.heap va xs.length 1 (flat enS xs)) : Calls Try.prog 44 #[va, .string z] w0 fun e w' => e = .returned (.int .i64 (pl xs z)) ∧ Ext w0 w' := by
  have hE0 : Below w0.heap.size w0 w0 := Below.refl _ _
  have hz0 := hE0.le
  obtain ⟨a, ca, rfl, hca, hca1⟩ := ha.form
  refine enter Try.func44 rfl 19 Try.ntmps44 rfl ?_
  refine seqK fun Q1 kn2 kr3 ke4 => ?_
  refine region ?_
  refine st_q (v := .int .i64 ((0 : Nat) : Int)) (x_assign rfl) ?_
  refine st_nil ?_
  refine kn2 _ _ ?_
  refine seqK fun Q5 kn6 kr7 ke8 => ?_
  refine seqK fun Q9 kn10 kr11 ke12 => ?_
  refine region ?_
  refine st_q (v := .int .i64 ((0 : Nat) : Int)) (x_assign rfl) ?_
  refine st_nil ?_
  refine kn10 _ _ ?_
  refine blockK fun Q13 kn14 kr15 kx16 kb17 => ?_
  refine loopK (α := Nat) (fun x => [(0, .slice a xs.length ca), (1, .string z), (5, .int .i64 ((x : Nat) : Int))]) (fun x w18 => Ext w0 w18 ∧ x ≤ xs.length ∧ ∀ j, j < x → ¬ (el xs j).toList = z.toList) (fun x => xs.length - x) (0) ⟨rfl, rfl, rfl, trivial⟩ ?_ ?_
  ·
    refine ⟨Below.refl _ _, ?_⟩
    try dsimp only
    exact ⟨Nat.zero_le _, fun j h => by omega⟩
  ·
    rintro τ19 i w20 ⟨hx21, ⟨hi, hI⟩⟩
    try dsimp only at hi hI
    have hE22 : Below w0.heap.size w0 w20 := hx21.e hE0 (Nat.le_refl _)
    have hz23 := hE22.le
    have hs24 := hx21.size
    intro Q25 kn26 kr27 ke28
    refine seqK fun Q29 kn30 kr31 ke32 => ?_
    refine seqK fun Q33 kn34 kr35 ke36 => ?_
    refine region ?_
    refine st_q (v := .int .i64 ((i : Nat) : Int)) (x_move rfl) ?_
    refine st_q (v := .slice a xs.length ca) (x_move rfl) ?_
    refine st_q (v := .int .i64 ((xs.length : Nat) : Int)) (x_lenSl rfl Try.underlying22 rfl) ?_
    refine st_q (v := .bool (decide (i < xs.length))) (x_lssN rfl rfl) ?_
    refine st_nil ?_
    refine kn34 _ _ ?_
    refine cnd (p := i < xs.length) rfl (fun h37 => ?_) (fun h37 => ?_)
    ·
      refine skip ?_
      refine kn30 _ _ ?_
      refine seqK fun Q38 kn39 kr40 ke41 => ?_
      refine blockK fun Q42 kn43 kr44 kx45 kb46 => ?_
      refine seqK fun Q47 kn48 kr49 ke50 => ?_
      refine region ?_
      refine st_q (v := .slice a xs.length ca) (x_move rfl) ?_
      refine st_q (v := .int .i64 ((i : Nat) : Int)) (x_move rfl) ?_
      obtain ⟨b51, o52, ha53, hc54⟩ := ha.at (by omega)
      refine st_q (v := .pointer (some ⟨b51, o52 + i * 1, none⟩)) (x_index' T.sl22 rfl ha53 rfl (by omega)) ?_
      refine st_q (v := .string (el xs i)) (x_load1 T.na9 rfl ((hc54.below hE22).elem enS_len (i := i) (by omega))) ?_
      refine st_q (v := .string z) (x_move rfl) ?_
      refine st_q (v := .bool (decide ((el xs i).toList = z.toList))) (x_eqlS rfl rfl) ?_
      refine st_nil ?_
      refine kn48 _ _ ?_
      refine cnd (p := (el xs i).toList = z.toList) rfl (fun h55 => ?_) (fun h55 => ?_)
      ·
        refine seqK fun Q56 kn57 kr58 ke59 => ?_
        refine region ?_
        refine st_q (v := .int .i64 ((i : Nat) : Int)) (x_move rfl) ?_
        refine st_q (v := .int .i64 ((i : Nat) : Int)) (x_assign rfl) ?_
        refine st_nil ?_
        refine kn57 _ _ ?_
        refine ret ?_
        refine kr44 _ _ ?_
        refine kr40 _ _ ?_
        refine kr27 _ _ ?_
        refine kr15 _ _ ?_
        refine kr7 _ _ ?_
        refine leave1 (P := Try.prog) (fn := Try.f44) (t := 4) (v := .int .i64 ((i : Nat) : Int)) rfl rfl ?_
        exact ⟨by rw [pl_at (by omega) (by assumption) hI], hE22⟩
      ·
        refine skip ?_
        refine kn43 _ _ ?_
        refine kn39 _ _ ?_
        refine region ?_
        refine st_q (v := .int .i64 ((i : Nat) : Int)) (x_move rfl) ?_
        refine st_q (v := .int .i64 (((i + 1) : Nat) : Int)) (x_addN rfl rfl (by omega)) ?_
        refine st_q (v := .int .i64 (((i + 1) : Nat) : Int)) (x_assign rfl) ?_
        refine st_nil ?_
        refine kn26 _ ((i + 1)) _ ⟨rfl, rfl, rfl, trivial⟩ ⟨hx21, ?_⟩ ?_
        ·
          try dsimp only
          exact ⟨by omega, fun j h => by
            by_cases he : j = i
            · subst he; assumption
            · exact hI j (by omega)⟩
        ·
          (try dsimp only); omega
    ·
      refine exit ?_
      refine ke32 _ _ _ ?_
      refine ke28 _ _ _ ?_
      refine kb17 _ _ ?_
      refine kn6 _ _ ?_
      refine seqK fun Q60 kn61 kr62 ke63 => ?_
      refine region ?_
      refine st_q (v := .int .i64 (-1)) (x_assign rfl) ?_
      refine st_nil ?_
      refine kn61 _ _ ?_
      refine ret ?_
      refine leave1 (P := Try.prog) (fn := Try.f44) (t := 4) (v := .int .i64 (-1)) rfl rfl ?_
      exact ⟨by rw [pl_no (fun j hj => hI j (by omega))], hE22⟩

set_option maxHeartbeats 4000000 in
theorem among27 (xs : List ByteArray) (z : ByteArray) (va : Value) (w0 : World) (ha : Src w0.heap va xs.length 1 (flat enS xs)) : Calls Try.prog 27 #[va, .string z] w0 fun e w' => e = .returned (.bool (inB xs z)) ∧ Ext w0 w' := by
  have hE0 : Below w0.heap.size w0 w0 := Below.refl _ _
  have hz0 := hE0.le
  obtain ⟨a, ca, rfl, hca, hca1⟩ := ha.form
  refine enter Try.func27 rfl 18 Try.ntmps27 rfl ?_
  refine seqK fun Q1 kn2 kr3 ke4 => ?_
  refine region ?_
  refine st_q (v := .bool false) (x_assign rfl) ?_
  refine st_nil ?_
  refine kn2 _ _ ?_
  refine seqK fun Q5 kn6 kr7 ke8 => ?_
  refine seqK fun Q9 kn10 kr11 ke12 => ?_
  refine region ?_
  refine st_q (v := .int .i64 ((0 : Nat) : Int)) (x_assign rfl) ?_
  refine st_nil ?_
  refine kn10 _ _ ?_
  refine blockK fun Q13 kn14 kr15 kx16 kb17 => ?_
  refine loopK (α := Nat) (fun x => [(0, .slice a xs.length ca), (1, .string z), (5, .int .i64 ((x : Nat) : Int))]) (fun x w18 => Ext w0 w18 ∧ x ≤ xs.length ∧ ∀ j, j < x → ¬ (el xs j).toList = z.toList) (fun x => xs.length - x) (0) ⟨rfl, rfl, rfl, trivial⟩ ?_ ?_
  ·
    refine ⟨Below.refl _ _, ?_⟩
    try dsimp only
    exact ⟨Nat.zero_le _, fun j h => by omega⟩
  ·
    rintro τ19 i w20 ⟨hx21, ⟨hi, hI⟩⟩
    try dsimp only at hi hI
    have hE22 : Below w0.heap.size w0 w20 := hx21.e hE0 (Nat.le_refl _)
    have hz23 := hE22.le
    have hs24 := hx21.size
    intro Q25 kn26 kr27 ke28
    refine seqK fun Q29 kn30 kr31 ke32 => ?_
    refine seqK fun Q33 kn34 kr35 ke36 => ?_
    refine region ?_
    refine st_q (v := .int .i64 ((i : Nat) : Int)) (x_move rfl) ?_
    refine st_q (v := .slice a xs.length ca) (x_move rfl) ?_
    refine st_q (v := .int .i64 ((xs.length : Nat) : Int)) (x_lenSl rfl Try.underlying22 rfl) ?_
    refine st_q (v := .bool (decide (i < xs.length))) (x_lssN rfl rfl) ?_
    refine st_nil ?_
    refine kn34 _ _ ?_
    refine cnd (p := i < xs.length) rfl (fun h37 => ?_) (fun h37 => ?_)
    ·
      refine skip ?_
      refine kn30 _ _ ?_
      refine seqK fun Q38 kn39 kr40 ke41 => ?_
      refine blockK fun Q42 kn43 kr44 kx45 kb46 => ?_
      refine seqK fun Q47 kn48 kr49 ke50 => ?_
      refine region ?_
      refine st_q (v := .slice a xs.length ca) (x_move rfl) ?_
      refine st_q (v := .int .i64 ((i : Nat) : Int)) (x_move rfl) ?_
      obtain ⟨b51, o52, ha53, hc54⟩ := ha.at (by omega)
      refine st_q (v := .pointer (some ⟨b51, o52 + i * 1, none⟩)) (x_index' T.sl22 rfl ha53 rfl (by omega)) ?_
      refine st_q (v := .string (el xs i)) (x_load1 T.na9 rfl ((hc54.below hE22).elem enS_len (i := i) (by omega))) ?_
      refine st_q (v := .string z) (x_move rfl) ?_
      refine st_q (v := .bool (decide ((el xs i).toList = z.toList))) (x_eqlS rfl rfl) ?_
      refine st_nil ?_
      refine kn48 _ _ ?_
      refine cnd (p := (el xs i).toList = z.toList) rfl (fun h55 => ?_) (fun h55 => ?_)
      ·
        refine seqK fun Q56 kn57 kr58 ke59 => ?_
        refine region ?_
        refine st_q (v := .bool true) (x_assign rfl) ?_
        refine st_nil ?_
        refine kn57 _ _ ?_
        refine ret ?_
        refine kr44 _ _ ?_
        refine kr40 _ _ ?_
        refine kr27 _ _ ?_
        refine kr15 _ _ ?_
        refine kr7 _ _ ?_
        refine leave1 (P := Try.prog) (fn := Try.f27) (t := 4) (v := .bool true) rfl rfl ?_
        exact ⟨by rw [inB_t (by omega) (by assumption)], hE22⟩
      ·
        refine skip ?_
        refine kn43 _ _ ?_
        refine kn39 _ _ ?_
        refine region ?_
        refine st_q (v := .int .i64 ((i : Nat) : Int)) (x_move rfl) ?_
        refine st_q (v := .int .i64 (((i + 1) : Nat) : Int)) (x_addN rfl rfl (by omega)) ?_
        refine st_q (v := .int .i64 (((i + 1) : Nat) : Int)) (x_assign rfl) ?_
        refine st_nil ?_
        refine kn26 _ ((i + 1)) _ ⟨rfl, rfl, rfl, trivial⟩ ⟨hx21, ?_⟩ ?_
        ·
          try dsimp only
          exact ⟨by omega, fun j h => by
            by_cases he : j = i
            · subst he; assumption
            · exact hI j (by omega)⟩
        ·
          (try dsimp only); omega
    ·
      refine exit ?_
      refine ke32 _ _ _ ?_
      refine ke28 _ _ _ ?_
      refine kb17 _ _ ?_
      refine kn6 _ _ ?_
      refine seqK fun Q60 kn61 kr62 ke63 => ?_
      refine region ?_
      refine st_q (v := .bool false) (x_assign rfl) ?_
      refine st_nil ?_
      refine kn61 _ _ ?_
      refine ret ?_
      refine leave1 (P := Try.prog) (fn := Try.f27) (t := 4) (v := .bool false) rfl rfl ?_
      exact ⟨by rw [inB_f (fun j hj => hI j (by omega))], hE22⟩

set_option maxHeartbeats 4000000 in
theorem sameE34 (xs ys : List Edge) (va vb : Value) (w0 : World) (ha : Src w0.heap va xs.length 3 (flat enE xs)) (hb : Src w0.heap vb ys.length 3 (flat enE ys)) : Calls Try.prog 34 #[va, vb] w0 fun e w' => e = .returned (.bool (decide (xs = ys))) ∧ Ext w0 w' := by
  have hE0 : Below w0.heap.size w0 w0 := Below.refl _ _
  have hz0 := hE0.le
  obtain ⟨a, ca, rfl, hca, hca1⟩ := ha.form
  obtain ⟨b, cb, rfl, hcb, hcb1⟩ := hb.form
  refine enter Try.func34 rfl 26 Try.ntmps34 rfl ?_
  refine seqK fun Q1 kn2 kr3 ke4 => ?_
  refine region ?_
  refine st_q (v := .bool false) (x_assign rfl) ?_
  refine st_nil ?_
  refine kn2 _ _ ?_
  refine seqK fun Q5 kn6 kr7 ke8 => ?_
  refine seqK fun Q9 kn10 kr11 ke12 => ?_
  refine region ?_
  refine st_q (v := .slice a xs.length ca) (x_move rfl) ?_
  refine st_q (v := .int .i64 ((xs.length : Nat) : Int)) (x_lenSl rfl Try.underlying23 rfl) ?_
  refine st_q (v := .slice b ys.length cb) (x_move rfl) ?_
  refine st_q (v := .int .i64 ((ys.length : Nat) : Int)) (x_lenSl rfl Try.underlying23 rfl) ?_
  refine st_q (v := .bool (decide (xs.length ≠ ys.length))) (x_neqN rfl rfl) ?_
  refine st_nil ?_
  refine kn10 _ _ ?_
  refine cnd (p := xs.length ≠ ys.length) rfl (fun h13 => ?_) (fun h13 => ?_)
  ·
    refine seqK fun Q14 kn15 kr16 ke17 => ?_
    refine region ?_
    refine st_q (v := .bool false) (x_assign rfl) ?_
    refine st_nil ?_
    refine kn15 _ _ ?_
    refine ret ?_
    refine kr7 _ _ ?_
    refine leave1 (P := Try.prog) (fn := Try.f34) (t := 4) (v := .bool false) rfl rfl ?_
    first | exact ⟨by rw [decide_eq_false fun e => by subst e; contradiction], hE0⟩ | exact ⟨by rw [decide_eq_false (fun e => by subst e; omega)], hE0⟩
  ·
    refine skip ?_
    refine kn6 _ _ ?_
    refine seqK fun Q18 kn19 kr20 ke21 => ?_
    refine seqK fun Q22 kn23 kr24 ke25 => ?_
    refine region ?_
    refine st_q (v := .int .i64 ((0 : Nat) : Int)) (x_assign rfl) ?_
    refine st_nil ?_
    refine kn23 _ _ ?_
    refine blockK fun Q26 kn27 kr28 kx29 kb30 => ?_
    refine loopK (α := Nat) (fun x => [(0, .slice a xs.length ca), (1, .slice b ys.length cb), (5, .int .i64 ((x : Nat) : Int))]) (fun x w31 => Ext w0 w31 ∧ x ≤ xs.length ∧ ∀ j, j < x → el xs j = el ys j) (fun x => xs.length - x) (0) ⟨rfl, rfl, rfl, trivial⟩ ?_ ?_
    ·
      refine ⟨Below.refl _ _, ?_⟩
      try dsimp only
      exact ⟨Nat.zero_le _, fun j h => by omega⟩
    ·
      rintro τ32 i w33 ⟨hx34, ⟨hi, hI⟩⟩
      try dsimp only at hi hI
      have hE35 : Below w0.heap.size w0 w33 := hx34.e hE0 (Nat.le_refl _)
      have hz36 := hE35.le
      have hs37 := hx34.size
      intro Q38 kn39 kr40 ke41
      refine seqK fun Q42 kn43 kr44 ke45 => ?_
      refine seqK fun Q46 kn47 kr48 ke49 => ?_
      refine region ?_
      refine st_q (v := .int .i64 ((i : Nat) : Int)) (x_move rfl) ?_
      refine st_q (v := .slice a xs.length ca) (x_move rfl) ?_
      refine st_q (v := .int .i64 ((xs.length : Nat) : Int)) (x_lenSl rfl Try.underlying23 rfl) ?_
      refine st_q (v := .bool (decide (i < xs.length))) (x_lssN rfl rfl) ?_
      refine st_nil ?_
      refine kn47 _ _ ?_
      refine cnd (p := i < xs.length) rfl (fun h50 => ?_) (fun h50 => ?_)
      ·
        refine skip ?_
        refine kn43 _ _ ?_
        refine seqK fun Q51 kn52 kr53 ke54 => ?_
        refine blockK fun Q55 kn56 kr57 kx58 kb59 => ?_
        refine seqK fun Q60 kn61 kr62 ke63 => ?_
        refine regionD1 [3, 7] [0, 1, 2, 3, 4, 5, 6, 7, 8] (.one 0 (.one 1 (.one 2 (.one 3 (.one 4 (.one 5 (.one 6 (.one 7 (.one 8 .done))))))))) (by kernel_rfl) (by kernel_rfl) ?_
        intro w64 hx65 hs66
        have hF67 := hx65.e hx34 (Nat.le_refl _)
        have hE68 : Below w0.heap.size w0 w64 := hx65.e hE35 (Nat.le_refl _)
        have hz69 := hE68.le
        have hs70 := hx65.size
        have hS71 : Ext w64 w64 := Below.refl _ _
        refine d_q (v := .slice a xs.length ca) rfl rfl (fun _ => x_move rfl) ?_
        refine d_q (v := .int .i64 ((i : Nat) : Int)) rfl rfl (fun _ => x_move rfl) ?_
        obtain ⟨b72, o73, ha74, hc75⟩ := ha.at (by omega)
        refine d_q (v := .pointer (some ⟨b72, o73 + i * 3, none⟩)) rfl rfl (fun _ => x_index' T.sl23 rfl ha74 rfl (by omega)) ?_
        refine d_l (v := .agg #[.string ((el xs i).1), .string ((el xs i).2.1), .bool ((el xs i).2.2)]) rfl rfl rfl (fun v77 hw76 => x_loadA [.string ((el xs i).1), .string ((el xs i).2.1), .bool ((el xs i).2.2)] T.ag47 rfl (((hc75.below hE68).elem enE_len (i := i) (by omega)).ext hw76)) ?_
        refine d_q (v := .slice b ys.length cb) rfl rfl (fun _ => x_move rfl) ?_
        refine d_q (v := .int .i64 ((i : Nat) : Int)) rfl rfl (fun _ => x_move rfl) ?_
        obtain ⟨b78, o79, ha80, hc81⟩ := hb.at (by omega)
        refine d_q (v := .pointer (some ⟨b78, o79 + i * 3, none⟩)) rfl rfl (fun _ => x_index' T.sl23 rfl ha80 rfl (by omega)) ?_
        refine d_l (v := .agg #[.string ((el ys i).1), .string ((el ys i).2.1), .bool ((el ys i).2.2)]) rfl rfl rfl (fun v83 hw82 => x_loadA [.string ((el ys i).1), .string ((el ys i).2.1), .bool ((el ys i).2.2)] T.ag47 rfl (((hc81.below hE68).elem enE_len (i := i) (by omega)).ext hw82)) ?_
        refine d_q (v := .bool (decide (¬ ((el xs i) = (el ys i))))) rfl rfl (fun _ => x_neq3 T.eq3_47 rfl rfl) ?_
        refine d_done ?_
        refine kn61 _ _ ?_
        refine cnd (p := ¬ ((el xs i) = (el ys i))) rfl (fun h84 => ?_) (fun h84 => ?_)
        ·
          refine seqK fun Q85 kn86 kr87 ke88 => ?_
          refine region ?_
          refine st_q (v := .bool false) (x_assign rfl) ?_
          refine st_nil ?_
          refine kn86 _ _ ?_
          refine ret ?_
          refine kr57 _ _ ?_
          refine kr53 _ _ ?_
          refine kr40 _ _ ?_
          refine kr28 _ _ ?_
          refine kr20 _ _ ?_
          refine leave1 (P := Try.prog) (fn := Try.f34) (t := 4) (v := .bool false) rfl rfl ?_
          first | exact ⟨by rw [decide_eq_false fun e => by subst e; contradiction], hE68⟩ | exact ⟨by rw [decide_eq_false (fun e => by subst e; omega)], hE68⟩
        ·
          refine skip ?_
          refine kn56 _ _ ?_
          refine kn52 _ _ ?_
          refine region ?_
          refine st_q (v := .int .i64 ((i : Nat) : Int)) (x_move rfl) ?_
          refine st_q (v := .int .i64 (((i + 1) : Nat) : Int)) (x_addN rfl rfl (by omega)) ?_
          refine st_q (v := .int .i64 (((i + 1) : Nat) : Int)) (x_assign rfl) ?_
          refine st_nil ?_
          refine kn39 _ ((i + 1)) _ ⟨rfl, rfl, rfl, trivial⟩ ⟨hF67, ?_⟩ ?_
          ·
            try dsimp only
            exact ⟨by omega, fun j h => by
              by_cases he : j = i
              · subst he; exact Decidable.of_not_not (by assumption)
              · exact hI j (by omega)⟩
          ·
            (try dsimp only); omega
      ·
        refine exit ?_
        refine ke45 _ _ _ ?_
        refine ke41 _ _ _ ?_
        refine kb30 _ _ ?_
        refine kn19 _ _ ?_
        refine seqK fun Q89 kn90 kr91 ke92 => ?_
        refine region ?_
        refine st_q (v := .bool true) (x_assign rfl) ?_
        refine st_nil ?_
        refine kn90 _ _ ?_
        refine ret ?_
        refine leave1 (P := Try.prog) (fn := Try.f34) (t := 4) (v := .bool true) rfl rfl ?_
        exact ⟨by rw [decide_eq_true (list_ext_elS (by omega) fun i h => hI i (by omega))], hE35⟩

set_option maxHeartbeats 4000000 in
theorem lentNames9 (xs : List ByteArray) (vl : Value) (w0 : World) (hl : Src w0.heap vl xs.length 1 (flat enS xs)) (hn : xs.length ≤ 1048576) : Calls Try.prog 9 #[vl] w0 fun e w' => ∃ a c, e = .returned (.slice a xs.length c) ∧ Ext w0 w' ∧ xs.length + 1 ≤ c ∧ Own w'.heap w0.heap.size 9 1 (.slice a (xs.length + 1) c) (xs.length + 1) (flat enS (xs ++ [(ByteArray.mk #[109, 97, 114, 107])])) ∧ c ≤ 9223372036854775807 := by
  have hE0 : Below w0.heap.size w0 w0 := Below.refl _ _
  have hz0 := hE0.le
  obtain ⟨a, ca, rfl, hca, hca1⟩ := hl.form
  refine enter Try.func9 rfl 12 Try.ntmps9 rfl ?_
  refine seqK fun Q1 kn2 kr3 ke4 => ?_
  refine region ?_
  refine st_q (v := .slice none 0 0) (x_assign rfl) ?_
  refine st_nil ?_
  refine kn2 _ _ ?_
  refine seqK fun Q5 kn6 kr7 ke8 => ?_
  refine region ?_
  refine st_q (v := .slice a xs.length ca) (x_move rfl) ?_
  refine st_e (e_append0 (lo := w0.heap.size) T.sl22 rfl rfl (hl.below hE0) (ones (by exact flat_onesS)) (by omega) (by decide) (by omega) ?_)
  intro v9 w10 hO11 hG12 hN13
  have hE14 : Below w0.heap.size w0 w10 := hG12.e hE0 (Nat.le_refl _)
  have hz15 := hE14.le
  have hs16 := hG12.size
  obtain ⟨a17, c18, rfl, hm19, hm20⟩ := hO11.src.form
  refine st_e (e_buildSlice (cs := [.string ((ByteArray.mk #[109, 97, 114, 107]))]) (e := 9) (fun _ => by kernel_rfl) ?_)
  intro w21 hA22
  have hx23 := hA22.ext
  have hs24 := hA22.size
  have hB25 : Blk w21.heap w10.heap.size [.string ((ByteArray.mk #[109, 97, 114, 107]))] 9 := hA22.new
  have hF26 := hO11.ext hx23
  have hE27 : Below w0.heap.size w0 w21 := hx23.e hE14 (Nat.le_refl _)
  have hz28 := hE27.le
  have hs29 := hx23.size
  refine st_e (e_appendX T.sl22 rfl rfl hF26 (hB25.src1 (k := 1) (m := 1) rfl (by omega)) (ones (by rfl)) (by omega) (by decide) (by omega) ?_)
  intro v30 w31 hO32 hG33 hN34 hW35
  have hE36 : Below w0.heap.size w0 w31 := grown_below hG33 hE27 (Nat.le_refl _) (fun b hb => (by have := (hF26.lt hb).1; clear hb; omega))
  have hz37 := hE36.le
  have hs38 := hG33.size
  have hO39 := Own.snoc (enc := enS) (u := (ByteArray.mk #[109, 97, 114, 107])) hO32
  obtain ⟨a40, c41, rfl, hm42, hm43⟩ := hO39.src.form
  refine st_q (v := .slice a40 ((xs.length + 1)) c41) (x_assign rfl) ?_
  refine st_nil ?_
  refine kn6 _ _ ?_
  refine seqK fun Q44 kn45 kr46 ke47 => ?_
  refine region ?_
  refine st_q (v := .slice a40 ((xs.length + 1)) c41) (x_move rfl) ?_
  refine st_q (v := .slice a xs.length ca) (x_move rfl) ?_
  refine st_q (v := .int .i64 ((xs.length : Nat) : Int)) (x_lenSl rfl Try.underlying22 rfl) ?_
  refine st_q (v := .slice a40 xs.length c41) (x_sliceHi T.sl22 rfl rfl (by omega)) ?_
  refine st_q (v := .slice a40 xs.length c41) (x_assign rfl) ?_
  refine st_nil ?_
  refine kn45 _ _ ?_
  refine ret ?_
  refine leave1 (P := Try.prog) (fn := Try.f9) (t := 2) (v := .slice a40 xs.length c41) rfl rfl ?_
  exact ⟨_, _, rfl, hE36, by omega, hO39, by omega⟩

set_option maxHeartbeats 4000000 in
theorem lentEdges10 (xs : List Edge) (vl : Value) (w0 : World) (hl : Src w0.heap vl xs.length 3 (flat enE xs)) (hn : xs.length ≤ 1048576) : Calls Try.prog 10 #[vl] w0 fun e w' => ∃ a c, e = .returned (.slice a xs.length c) ∧ Ext w0 w' ∧ xs.length + 1 ≤ c ∧ Own w'.heap w0.heap.size 47 3 (.slice a (xs.length + 1) c) (xs.length + 1) (flat enE (xs ++ [((ByteArray.mk #[109, 97, 114, 107]), ByteArray.empty, false)])) ∧ c ≤ 9223372036854775807 := by
  have hE0 : Below w0.heap.size w0 w0 := Below.refl _ _
  have hz0 := hE0.le
  obtain ⟨a, ca, rfl, hca, hca1⟩ := hl.form
  refine enter Try.func10 rfl 13 Try.ntmps10 rfl ?_
  refine seqK fun Q1 kn2 kr3 ke4 => ?_
  refine region ?_
  refine st_q (v := .slice none 0 0) (x_assign rfl) ?_
  refine st_nil ?_
  refine kn2 _ _ ?_
  refine seqK fun Q5 kn6 kr7 ke8 => ?_
  refine region ?_
  refine st_q (v := .slice a xs.length ca) (x_move rfl) ?_
  refine st_e (e_append0 (lo := w0.heap.size) T.sl23 rfl rfl (hl.below hE0) (ones (by exact flat_onesE)) (by omega) (by decide) (by omega) ?_)
  intro v9 w10 hO11 hG12 hN13
  have hE14 : Below w0.heap.size w0 w10 := hG12.e hE0 (Nat.le_refl _)
  have hz15 := hE14.le
  have hs16 := hG12.size
  obtain ⟨a17, c18, rfl, hm19, hm20⟩ := hO11.src.form
  refine st_q (v := .agg #[.string ((ByteArray.mk #[109, 97, 114, 107])), .string ByteArray.empty, .bool false]) (x_build (fun _ => by kernel_rfl)) ?_
  refine st_e (e_buildSlice (cs := [.string ((ByteArray.mk #[109, 97, 114, 107])), .string ByteArray.empty, .bool false]) (e := 47) (fun _ => by kernel_rfl) ?_)
  intro w21 hA22
  have hx23 := hA22.ext
  have hs24 := hA22.size
  have hB25 : Blk w21.heap w10.heap.size [.string ((ByteArray.mk #[109, 97, 114, 107])), .string ByteArray.empty, .bool false] 47 := hA22.new
  have hF26 := hO11.ext hx23
  have hE27 : Below w0.heap.size w0 w21 := hx23.e hE14 (Nat.le_refl _)
  have hz28 := hE27.le
  have hs29 := hx23.size
  refine st_e (e_appendX T.sl23 rfl rfl hF26 (hB25.src1 (k := 3) (m := 1) rfl (by omega)) (ones (by rfl)) (by omega) (by decide) (by omega) ?_)
  intro v30 w31 hO32 hG33 hN34 hW35
  have hE36 : Below w0.heap.size w0 w31 := grown_below hG33 hE27 (Nat.le_refl _) (fun b hb => (by have := (hF26.lt hb).1; clear hb; omega))
  have hz37 := hE36.le
  have hs38 := hG33.size
  have hO39 := Own.snoc (enc := enE) (u := ((ByteArray.mk #[109, 97, 114, 107]), ByteArray.empty, false)) hO32
  obtain ⟨a40, c41, rfl, hm42, hm43⟩ := hO39.src.form
  refine st_q (v := .slice a40 ((xs.length + 1)) c41) (x_assign rfl) ?_
  refine st_nil ?_
  refine kn6 _ _ ?_
  refine seqK fun Q44 kn45 kr46 ke47 => ?_
  refine region ?_
  refine st_q (v := .slice a40 ((xs.length + 1)) c41) (x_move rfl) ?_
  refine st_q (v := .slice a xs.length ca) (x_move rfl) ?_
  refine st_q (v := .int .i64 ((xs.length : Nat) : Int)) (x_lenSl rfl Try.underlying23 rfl) ?_
  refine st_q (v := .slice a40 xs.length c41) (x_sliceHi T.sl23 rfl rfl (by omega)) ?_
  refine st_q (v := .slice a40 xs.length c41) (x_assign rfl) ?_
  refine st_nil ?_
  refine kn45 _ _ ?_
  refine ret ?_
  refine leave1 (P := Try.prog) (fn := Try.f10) (t := 2) (v := .slice a40 xs.length c41) rfl rfl ?_
  exact ⟨_, _, rfl, hE36, by omega, hO39, by omega⟩

set_option maxHeartbeats 4000000 in
theorem refturned33 (xs : List Edge) (vl : Value) (w0 : World) (hl : Src w0.heap vl xs.length 3 (flat enE xs)) (hn : xs.length ≤ 1048576) : Calls Try.prog 33 #[vl] w0 fun e w' => ∃ v, e = .returned v ∧ Ext w0 w' ∧ Own w'.heap w0.heap.size 47 3 v xs.length (flat enE (xs.map turn)) := by
  have hE0 : Below w0.heap.size w0 w0 := Below.refl _ _
  have hz0 := hE0.le
  obtain ⟨a, ca, rfl, hca, hca1⟩ := hl.form
  refine enter Try.func33 rfl 31 Try.ntmps33 rfl ?_
  refine seqK fun Q1 kn2 kr3 ke4 => ?_
  refine region ?_
  refine st_q (v := .slice none 0 0) (x_assign rfl) ?_
  refine st_nil ?_
  refine kn2 _ _ ?_
  refine seqK fun Q5 kn6 kr7 ke8 => ?_
  refine region ?_
  refine st_q (v := .slice none 0 0) (x_assign rfl) ?_
  refine st_nil ?_
  refine kn6 _ _ ?_
  refine seqK fun Q9 kn10 kr11 ke12 => ?_
  refine seqK fun Q13 kn14 kr15 ke16 => ?_
  refine region ?_
  refine st_q (v := .int .i64 ((0 : Nat) : Int)) (x_assign rfl) ?_
  refine st_nil ?_
  refine kn14 _ _ ?_
  refine blockK fun Q17 kn18 kr19 kx20 kb21 => ?_
  refine loopK (α := Nat × Value) (fun x => [(0, .slice a xs.length ca), (3, x.2), (4, .int .i64 ((x.1 : Nat) : Int))]) (fun x w22 => Below w0.heap.size w0 w22 ∧ x.1 ≤ xs.length ∧ Own w22.heap w0.heap.size 47 3 x.2 x.1 (flat enE ((xs.take x.1).map turn))) (fun x => xs.length - x.1) (0, .slice none 0 0) ⟨rfl, rfl, rfl, trivial⟩ ?_ ?_
  ·
    refine ⟨hE0, ?_⟩
    try dsimp only
    exact ⟨Nat.zero_le _, Own.nil _ _ _ _⟩
  ·
    rintro τ23 ⟨i, v⟩ w24 ⟨hx25, ⟨hi, hO⟩⟩
    try dsimp only at hi hO
    have hz26 := hx25.le
    intro Q27 kn28 kr29 ke30
    obtain ⟨a31, c32, rfl, hm33, hm34⟩ := hO.src.form
    refine seqK fun Q35 kn36 kr37 ke38 => ?_
    refine seqK fun Q39 kn40 kr41 ke42 => ?_
    refine region ?_
    refine st_q (v := .int .i64 ((i : Nat) : Int)) (x_move rfl) ?_
    refine st_q (v := .slice a xs.length ca) (x_move rfl) ?_
    refine st_q (v := .int .i64 ((xs.length : Nat) : Int)) (x_lenSl rfl Try.underlying23 rfl) ?_
    refine st_q (v := .bool (decide (i < xs.length))) (x_lssN rfl rfl) ?_
    refine st_nil ?_
    refine kn40 _ _ ?_
    refine cnd (p := i < xs.length) rfl (fun h43 => ?_) (fun h43 => ?_)
    ·
      refine skip ?_
      refine kn36 _ _ ?_
      refine seqK fun Q44 kn45 kr46 ke47 => ?_
      refine blockK fun Q48 kn49 kr50 kx51 kb52 => ?_
      refine regionD1 [5, 10, 15] [0, 1, 2, 3, 4, 5, 6, 7, 8, 9, 10, 11, 12, 13, 14, 15, 16, 19] (.one 0 (.one 1 (.one 2 (.one 3 (.one 4 (.one 5 (.one 6 (.one 7 (.one 8 (.one 9 (.one 10 (.one 11 (.one 12 (.one 13 (.one 14 (.one 15 (.one 16 (.one 17 (.one 18 (.one 19 .done)))))))))))))))))))) (by kernel_rfl) (by kernel_rfl) ?_
      intro w53 hx54 hs55
      have hF56 := hO.ext hx54
      have hE57 : Below w0.heap.size w0 w53 := hx54.e hx25 (Nat.le_refl _)
      have hz58 := hE57.le
      have hs59 := hx54.size
      have hS60 : Ext w53 w53 := Below.refl _ _
      refine d_q (v := .slice a31 i c32) rfl rfl (fun _ => x_move rfl) ?_
      refine d_q (v := .slice a xs.length ca) rfl rfl (fun _ => x_move rfl) ?_
      refine d_q (v := .int .i64 ((i : Nat) : Int)) rfl rfl (fun _ => x_move rfl) ?_
      obtain ⟨b61, o62, ha63, hc64⟩ := hl.at (by omega)
      refine d_q (v := .pointer (some ⟨b61, o62 + i * 3, none⟩)) rfl rfl (fun _ => x_index' T.sl23 rfl ha63 rfl (by omega)) ?_
      refine d_q (v := .pointer (some ⟨b61, o62 + i * 3 + 1, none⟩)) rfl rfl (fun _ => x_field (o := o62 + i * 3) T.fa47_1 rfl) ?_
      refine d_l (v := .string ((el xs i).2.1)) rfl rfl rfl (fun v66 hw65 => x_load1 T.na9 rfl ((((hc64.below hE57).elem enE_len (i := i) (by omega)).fld 1 rfl).ext hw65)) ?_
      refine d_q (v := .slice a xs.length ca) rfl rfl (fun _ => x_move rfl) ?_
      refine d_q (v := .int .i64 ((i : Nat) : Int)) rfl rfl (fun _ => x_move rfl) ?_
      refine d_q (v := .pointer (some ⟨b61, o62 + i * 3, none⟩)) rfl rfl (fun _ => x_index' T.sl23 rfl ha63 rfl (by omega)) ?_
      refine d_q (v := .pointer (some ⟨b61, o62 + i * 3, none⟩)) rfl rfl (fun _ => x_field (o := o62 + i * 3) T.fa47_0 rfl) ?_
      refine d_l (v := .string ((el xs i).1)) rfl rfl rfl (fun v68 hw67 => x_load1 T.na9 rfl ((((hc64.below hE57).elem enE_len (i := i) (by omega)).fld 0 rfl).ext hw67)) ?_
      refine d_q (v := .slice a xs.length ca) rfl rfl (fun _ => x_move rfl) ?_
      refine d_q (v := .int .i64 ((i : Nat) : Int)) rfl rfl (fun _ => x_move rfl) ?_
      refine d_q (v := .pointer (some ⟨b61, o62 + i * 3, none⟩)) rfl rfl (fun _ => x_index' T.sl23 rfl ha63 rfl (by omega)) ?_
      refine d_q (v := .pointer (some ⟨b61, o62 + i * 3 + 2, none⟩)) rfl rfl (fun _ => x_field (o := o62 + i * 3) T.fa47_2 rfl) ?_
      refine d_l (v := .bool ((el xs i).2.2)) rfl rfl rfl (fun v70 hw69 => x_load1 T.na4 rfl ((((hc64.below hE57).elem enE_len (i := i) (by omega)).fld 2 rfl).ext hw69)) ?_
      refine d_q (v := .agg #[.string ((el xs i).2.1), .string ((el xs i).1), .bool ((el xs i).2.2)]) rfl rfl (fun _ => x_build (fun _ => by kernel_rfl)) ?_
      refine d_e (by decide) (d_e' rfl rfl (e_buildSlice (cs := [.string ((el xs i).2.1), .string ((el xs i).1), .bool ((el xs i).2.2)]) (e := 47) (fun _ => by kernel_rfl) ?_))
      intro w71 hA72
      have hx73 := hA72.ext
      have hs74 := hA72.size
      have hB75 : Blk w71.heap w53.heap.size [.string ((el xs i).2.1), .string ((el xs i).1), .bool ((el xs i).2.2)] 47 := hA72.new
      have hF76 := hF56.ext hx73
      have hE77 : Below w0.heap.size w0 w71 := hx73.e hE57 (Nat.le_refl _)
      have hz78 := hE77.le
      have hs79 := hx73.size
      have hS80 := hS60.trans (hx73.mono hS60.size)
      refine ⟨fun _ => hS80, ?_⟩
      refine d_e (by decide) (d_e' rfl rfl (e_appendX T.sl23 rfl rfl hF76 (hB75.src1 (k := 3) (m := 1) rfl (by omega)) (ones (by rfl)) (by omega) (by decide) (by omega) ?_))
      intro v81 w82 hO83 hG84 hN85 hW86
      have hE87 : Below w0.heap.size w0 w82 := grown_below hG84 hE77 (Nat.le_refl _) (fun b hb => (by have := (hF76.lt hb).1; clear hb; omega))
      have hz88 := hE87.le
      have hs89 := hG84.size
      refine ⟨need_no (by kernel_rfl), ?_⟩
      have hO90 := Own.snoc (enc := enE) (u := ((el xs i).2.1, (el xs i).1, (el xs i).2.2)) hO83
      obtain ⟨a91, c92, rfl, hm93, hm94⟩ := hO90.src.form
      refine d_q (v := .slice a91 ((i + 1)) c92) rfl rfl (fun _ => x_assign rfl) ?_
      refine d_done ?_
      refine kn49 _ _ ?_
      refine kn45 _ _ ?_
      refine region ?_
      refine st_q (v := .int .i64 ((i : Nat) : Int)) (x_move rfl) ?_
      refine st_q (v := .int .i64 (((i + 1) : Nat) : Int)) (x_addN rfl rfl (by omega)) ?_
      refine st_q (v := .int .i64 (((i + 1) : Nat) : Int)) (x_assign rfl) ?_
      refine st_nil ?_
      refine kn28 _ ((i + 1), .slice a91 ((i + 1)) c92) _ ⟨rfl, rfl, rfl, trivial⟩ ⟨hE87, ?_⟩ ?_
      ·
        try dsimp only
        exact ⟨by omega, by rw [take_succ_el (by omega), List.map_append]; exact hO90⟩
      ·
        (try dsimp only); omega
    ·
      refine exit ?_
      refine ke38 _ _ _ ?_
      refine ke30 _ _ _ ?_
      refine kb21 _ _ ?_
      refine kn10 _ _ ?_
      refine seqK fun Q95 kn96 kr97 ke98 => ?_
      refine region ?_
      refine st_q (v := .slice a31 i c32) (x_move rfl) ?_
      refine st_q (v := .slice a31 i c32) (x_assign rfl) ?_
      refine st_nil ?_
      refine kn96 _ _ ?_
      refine ret ?_
      refine leave1 (P := Try.prog) (fn := Try.f33) (t := 2) (v := .slice a31 i c32) rfl rfl ?_
      obtain rfl : i = xs.length := by omega
      rw [List.take_length] at hO
      exact ⟨_, rfl, hx25, hO⟩

end Go.Proofs.Ytknfjgbipfpnjaa
