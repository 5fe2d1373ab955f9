import Derived.Test.YtegpcbckiehleaaDoorS2
import Derived.Test.YtegpcbckiehleaaDoorSR
namespace Go.Proofs.YtegpcbckiehleaaDoor
open Go.RowKit Go.Eng Go.OrdPure Go.Flt
theorem T.sl42 : SL Tryd.prog 42 9 1 16 (.string ByteArray.empty) := sl_mk Tryd.underlying42 (by kernel_rfl) rfl (by decide)
theorem T.na9 : NA Tryd.prog 9 := fun _ => by kernel_rfl
theorem T.cf45 : CF Tryd.prog 45 := fun _ _ => by kernel_rfl
theorem T.sl27 : SL Tryd.prog 27 42 1 24 (.slice none 0 0) := sl_mk Tryd.underlying27 (by kernel_rfl) rfl (by decide)
theorem T.na42 : NA Tryd.prog 42 := fun _ => by kernel_rfl
theorem T.cf21 : CF Tryd.prog 21 := fun _ _ => by kernel_rfl
theorem T.fa29_2 : FA Tryd.prog 29 2 2 := fun _ _ => by kernel_rfl
theorem T.na27 : NA Tryd.prog 27 := fun _ => by kernel_rfl
theorem T.fa29_1 : FA Tryd.prog 29 1 1 := fun _ _ => by kernel_rfl
theorem T.na3 : NA Tryd.prog 3 := fun _ => by kernel_rfl
theorem T.sl30 : SL Tryd.prog 30 3 1 8 (.int .i64 ((0 : Nat) : Int)) := sl_mk Tryd.underlying30 (by kernel_rfl) rfl (by decide)
theorem T.cf58 : CF Tryd.prog 58 := fun _ _ => by kernel_rfl
theorem T.cf72 : CF Tryd.prog 72 := fun _ _ => by kernel_rfl
theorem T.cf57 : CF Tryd.prog 57 := fun _ _ => by kernel_rfl

set_option maxHeartbeats 4000000 in
theorem num16 (x : Int) (w0 : World) : Calls Tryd.prog 16 #[.int .i64 x] w0 fun e w' => e = .returned (.int .i64 x) ∧ w0 = w' := by
  refine enter Tryd.func16 rfl 4 Tryd.ntmps16 rfl ?_
  refine seqK fun Q1 kn2 kr3 ke4 => ?_
  refine region ?_
  refine st_q (v := .int .i64 ((0 : Nat) : Int)) (x_assign rfl) ?_
  refine st_nil ?_
  refine kn2 _ _ ?_
  refine seqK fun Q5 kn6 kr7 ke8 => ?_
  refine region ?_
  refine st_q (v := .int .i64 x) (x_move rfl) ?_
  refine st_q (v := .int .i64 x) (x_assign rfl) ?_
  refine st_nil ?_
  refine kn6 _ _ ?_
  refine ret ?_
  refine leave1 (P := Tryd.prog) (fn := Tryd.f16) (t := 2) (v := .int .i64 x) rfl rfl ?_
  exact ⟨rfl, rfl⟩

set_option maxHeartbeats 4000000 in
theorem same21 (xs ys : List ByteArray) (va vb : Value) (w0 : World) (ha : Src w0.heap va xs.length 1 (flat enS xs)) (hb : Src w0.heap vb ys.length 1 (flat enS ys)) : Calls Tryd.prog 21 #[va, vb] w0 fun e w' => e = .returned (.bool (decide (xs = ys))) ∧ Ext w0 w' := by
  have hE0 : Below w0.heap.size w0 w0 := Below.refl _ _
  have hz0 := hE0.le
  obtain ⟨a, ca, rfl, hca, hca1⟩ := ha.form
  obtain ⟨b, cb, rfl, hcb, hcb1⟩ := hb.form
  refine enter Tryd.func21 rfl 26 Tryd.ntmps21 rfl ?_
  refine seqK fun Q1 kn2 kr3 ke4 => ?_
  refine region ?_
  refine st_q (v := .bool false) (x_assign rfl) ?_
  refine st_nil ?_
  refine kn2 _ _ ?_
  refine seqK fun Q5 kn6 kr7 ke8 => ?_
  refine seqK fun Q9 kn10 kr11 ke12 => ?_
  refine region ?_
  refine st_q (v := .slice a xs.length ca) (x_move rfl) ?_
  refine st_q (v := .int .i64 ((xs.length : Nat) : Int)) (x_lenSl rfl Tryd.underlying42 rfl) ?_
  refine st_q (v := .slice b ys.length cb) (x_move rfl) ?_
  refine st_q (v := .int .i64 ((ys.length : Nat) : Int)) (x_lenSl rfl Tryd.underlying42 rfl) ?_
  refine st_q (v := .bool (decide (xs.length ≠ ys.length))) (x_neqN rfl rfl) ?_
  refine st_nil ?_
  refine kn10 _ _ ?_
  refine cnd (p := xs.length ≠ ys.length) rfl (fun h13 => ?_) (fun h13 => ?_)
  ·
   refine seqK fun Q14 kn15 kr16 ke17 => ?_
   refine region ?_
   refine st_q (v := .bool false) (x_assign rfl) ?_
   refine st_nil ?_
   refine kn15 _ _ ?_
   refine ret ?_
   refine kr7 _ _ ?_
   refine leave1 (P := Tryd.prog) (fn := Tryd.f21) (t := 4) (v := .bool false) rfl rfl ?_
   first | exact ⟨by rw [decide_eq_false fun e => by subst e; contradiction], hE0⟩ | exact ⟨by rw [decide_eq_false (fun e => by subst e; omega)], hE0⟩
  ·
   refine skip ?_
   refine kn6 _ _ ?_
   refine seqK fun Q18 kn19 kr20 ke21 => ?_
   refine seqK fun Q22 kn23 kr24 ke25 => ?_
   refine region ?_
   refine st_q (v := .int .i64 ((0 : Nat) : Int)) (x_assign rfl) ?_
   refine st_nil ?_
   refine kn23 _ _ ?_
   refine blockK fun Q26 kn27 kr28 kx29 kb30 => ?_
   refine loopK (α := Nat) (fun x => [(0, .slice a xs.length ca), (1, .slice b ys.length cb), (5, .int .i64 ((x : Nat) : Int))]) (fun x w31 => Ext w0 w31 ∧ x ≤ xs.length ∧ ∀ j, j < x → el xs j = el ys j) (fun x => xs.length - x) (0) ⟨rfl, rfl, rfl, trivial⟩ ?_ ?_
   ·
    refine ⟨Below.refl _ _, ?_⟩
    try dsimp only
    exact ⟨Nat.zero_le _, fun j h => by omega⟩
   ·
    rintro τ32 i w33 ⟨hx34, ⟨hi, hI⟩⟩
    try dsimp only at hi hI
    have hE35 : Below w0.heap.size w0 w33 := hx34.e hE0 (Nat.le_refl _)
    have hz36 := hE35.le
    have hs37 := hx34.size
    intro Q38 kn39 kr40 ke41
    refine seqK fun Q42 kn43 kr44 ke45 => ?_
    refine seqK fun Q46 kn47 kr48 ke49 => ?_
    refine region ?_
    refine st_q (v := .int .i64 ((i : Nat) : Int)) (x_move rfl) ?_
    refine st_q (v := .slice a xs.length ca) (x_move rfl) ?_
    refine st_q (v := .int .i64 ((xs.length : Nat) : Int)) (x_lenSl rfl Tryd.underlying42 rfl) ?_
    refine st_q (v := .bool (decide (i < xs.length))) (x_lssN rfl rfl) ?_
    refine st_nil ?_
    refine kn47 _ _ ?_
    refine cnd (p := i < xs.length) rfl (fun h50 => ?_) (fun h50 => ?_)
    ·
     refine skip ?_
     refine kn43 _ _ ?_
     refine seqK fun Q51 kn52 kr53 ke54 => ?_
     refine blockK fun Q55 kn56 kr57 kx58 kb59 => ?_
     refine seqK fun Q60 kn61 kr62 ke63 => ?_
     refine regionD1 [3, 7] [0, 1, 2, 3, 4, 5, 6, 7, 8] (.one 0 (.one 1 (.one 2 (.one 3 (.one 4 (.one 5 (.one 6 (.one 7 (.one 8 .done))))))))) (by kernel_rfl) (by kernel_rfl) ?_
     intro w64 hx65 hs66
     have hF67 := hx65.e hx34 (Nat.le_refl _)
     have hE68 : Below w0.heap.size w0 w64 := hx65.e hE35 (Nat.le_refl _)
     have hz69 := hE68.le
     have hs70 := hx65.size
     have hS71 : Ext w64 w64 := Below.refl _ _
     refine d_q (v := .slice a xs.length ca) rfl rfl (fun _ => x_move rfl) ?_
     refine d_q (v := .int .i64 ((i : Nat) : Int)) rfl rfl (fun _ => x_move rfl) ?_
     obtain ⟨b72, o73, ha74, hc75⟩ := ha.at (by omega)
     refine d_q (v := .pointer (some ⟨b72, o73 + i * 1, none⟩)) rfl rfl (fun _ => x_index' T.sl42 rfl ha74 rfl (by omega)) ?_
     refine d_l (v := .string (el xs i)) rfl rfl rfl (fun v77 hw76 => x_load1 T.na9 rfl (((hc75.below hE68).elem enS_len (i := i) (by omega)).ext hw76)) ?_
     refine d_q (v := .slice b ys.length cb) rfl rfl (fun _ => x_move rfl) ?_
     refine d_q (v := .int .i64 ((i : Nat) : Int)) rfl rfl (fun _ => x_move rfl) ?_
     obtain ⟨b78, o79, ha80, hc81⟩ := hb.at (by omega)
     refine d_q (v := .pointer (some ⟨b78, o79 + i * 1, none⟩)) rfl rfl (fun _ => x_index' T.sl42 rfl ha80 rfl (by omega)) ?_
     refine d_l (v := .string (el ys i)) rfl rfl rfl (fun v83 hw82 => x_load1 T.na9 rfl (((hc81.below hE68).elem enS_len (i := i) (by omega)).ext hw82)) ?_
     refine d_q (v := .bool (decide ((el xs i).toList ≠ (el ys i).toList))) rfl rfl (fun _ => x_neqS rfl rfl) ?_
     refine d_done ?_
     refine kn61 _ _ ?_
     refine cnd (p := (el xs i).toList ≠ (el ys i).toList) rfl (fun h84 => ?_) (fun h84 => ?_)
     ·
      refine seqK fun Q85 kn86 kr87 ke88 => ?_
      refine region ?_
      refine st_q (v := .bool false) (x_assign rfl) ?_
      refine st_nil ?_
      refine kn86 _ _ ?_
      refine ret ?_
      refine kr57 _ _ ?_
      refine kr53 _ _ ?_
      refine kr40 _ _ ?_
      refine kr28 _ _ ?_
      refine kr20 _ _ ?_
      refine leave1 (P := Tryd.prog) (fn := Tryd.f21) (t := 4) (v := .bool false) rfl rfl ?_
      first | exact ⟨by rw [decide_eq_false fun e => by subst e; contradiction], hE68⟩ | exact ⟨by rw [decide_eq_false (fun e => by subst e; omega)], hE68⟩
     ·
      refine skip ?_
      refine kn56 _ _ ?_
      refine kn52 _ _ ?_
      refine region ?_
      refine st_q (v := .int .i64 ((i : Nat) : Int)) (x_move rfl) ?_
      refine st_q (v := .int .i64 (((i + 1) : Nat) : Int)) (x_addN rfl rfl (by omega)) ?_
      refine st_q (v := .int .i64 (((i + 1) : Nat) : Int)) (x_assign rfl) ?_
      refine st_nil ?_
      refine kn39 _ ((i + 1)) _ ⟨rfl, rfl, rfl, trivial⟩ ⟨hF67, ?_⟩ ?_
      ·
       try dsimp only
       exact ⟨by omega, fun j h => by
         by_cases he : j = i
         · subst he; exact bytes_ext (Decidable.of_not_not (by assumption))
         · exact hI j (by omega)⟩
      ·
       (try dsimp only); omega
    ·
     refine exit ?_
     refine ke45 _ _ _ ?_
     refine ke41 _ _ _ ?_
     refine kb30 _ _ ?_
     refine kn19 _ _ ?_
     refine seqK fun Q89 kn90 kr91 ke92 => ?_
     refine region ?_
     refine st_q (v := .bool true) (x_assign rfl) ?_
     refine st_nil ?_
     refine kn90 _ _ ?_
     refine ret ?_
     refine leave1 (P := Tryd.prog) (fn := Tryd.f21) (t := 4) (v := .bool true) rfl rfl ?_
     exact ⟨by rw [decide_eq_true (list_ext_el (by omega) fun i h => hI i (by omega))], hE35⟩

set_option maxHeartbeats 4000000 in
theorem equal55 (xs ys : List ByteArray) (va vb : Value) (w0 : World) (ha : Src w0.heap va xs.length 1 (flat enS xs)) (hb : Src w0.heap vb ys.length 1 (flat enS ys)) : Calls Tryd.prog 55 #[va, vb] w0 fun e w' => e = .returned (.bool (decide (xs = ys))) ∧ Ext w0 w' := by
  have hE0 : Below w0.heap.size w0 w0 := Below.refl _ _
  have hz0 := hE0.le
  obtain ⟨a, ca, rfl, hca, hca1⟩ := ha.form
  obtain ⟨b, cb, rfl, hcb, hcb1⟩ := hb.form
  refine enter Tryd.func55 rfl 26 Tryd.ntmps55 rfl ?_
  refine seqK fun Q1 kn2 kr3 ke4 => ?_
  refine region ?_
  refine st_q (v := .bool false) (x_assign rfl) ?_
  refine st_nil ?_
  refine kn2 _ _ ?_
  refine seqK fun Q5 kn6 kr7 ke8 => ?_
  refine seqK fun Q9 kn10 kr11 ke12 => ?_
  refine region ?_
  refine st_q (v := .slice a xs.length ca) (x_move rfl) ?_
  refine st_q (v := .int .i64 ((xs.length : Nat) : Int)) (x_lenSl rfl Tryd.underlying42 rfl) ?_
  refine st_q (v := .slice b ys.length cb) (x_move rfl) ?_
  refine st_q (v := .int .i64 ((ys.length : Nat) : Int)) (x_lenSl rfl Tryd.underlying42 rfl) ?_
  refine st_q (v := .bool (decide (xs.length ≠ ys.length))) (x_neqN rfl rfl) ?_
  refine st_nil ?_
  refine kn10 _ _ ?_
  refine cnd (p := xs.length ≠ ys.length) rfl (fun h13 => ?_) (fun h13 => ?_)
  ·
   refine seqK fun Q14 kn15 kr16 ke17 => ?_
   refine region ?_
   refine st_q (v := .bool false) (x_assign rfl) ?_
   refine st_nil ?_
   refine kn15 _ _ ?_
   refine ret ?_
   refine kr7 _ _ ?_
   refine leave1 (P := Tryd.prog) (fn := Tryd.f55) (t := 4) (v := .bool false) rfl rfl ?_
   first | exact ⟨by rw [decide_eq_false fun e => by subst e; contradiction], hE0⟩ | exact ⟨by rw [decide_eq_false (fun e => by subst e; omega)], hE0⟩
  ·
   refine skip ?_
   refine kn6 _ _ ?_
   refine seqK fun Q18 kn19 kr20 ke21 => ?_
   refine seqK fun Q22 kn23 kr24 ke25 => ?_
   refine region ?_
   refine st_q (v := .slice a xs.length ca) (x_move rfl) ?_
   refine st_q (v := .int .i64 ((xs.length : Nat) : Int)) (x_lenSl rfl Tryd.underlying42 rfl) ?_
   refine st_q (v := .int .i64 ((0 : Nat) : Int)) (x_move rfl) ?_
   refine st_nil ?_
   refine kn23 _ _ ?_
   refine blockK fun Q26 kn27 kr28 kx29 kb30 => ?_
   refine loopK (α := Nat) (fun x => [(0, .slice a xs.length ca), (1, .slice b ys.length cb), (12, .int .i64 ((xs.length : Nat) : Int)), (13, .int .i64 ((x : Nat) : Int))]) (fun x w31 => Ext w0 w31 ∧ x ≤ xs.length ∧ ∀ j, j < x → el xs j = el ys j) (fun x => xs.length - x) (0) ⟨rfl, rfl, rfl, rfl, trivial⟩ ?_ ?_
   ·
    refine ⟨Below.refl _ _, ?_⟩
    try dsimp only
    exact ⟨Nat.zero_le _, fun j h => by omega⟩
   ·
    rintro τ32 i w33 ⟨hx34, ⟨hi, hI⟩⟩
    try dsimp only at hi hI
    have hE35 : Below w0.heap.size w0 w33 := hx34.e hE0 (Nat.le_refl _)
    have hz36 := hE35.le
    have hs37 := hx34.size
    intro Q38 kn39 kr40 ke41
    refine seqK fun Q42 kn43 kr44 ke45 => ?_
    refine region ?_
    refine st_q (v := .bool (decide (i < xs.length))) (x_lssN rfl rfl) ?_
    refine st_nil ?_
    refine kn43 _ _ ?_
    refine seqK fun Q46 kn47 kr48 ke49 => ?_
    refine cnd (p := i < xs.length) rfl (fun h50 => ?_) (fun h50 => ?_)
    ·
     refine skip ?_
     refine kn47 _ _ ?_
     refine seqK fun Q51 kn52 kr53 ke54 => ?_
     refine blockK fun Q55 kn56 kr57 kx58 kb59 => ?_
     refine seqK fun Q60 kn61 kr62 ke63 => ?_
     refine region ?_
     refine st_q (v := .int .i64 ((i : Nat) : Int)) (x_move rfl) ?_
     refine st_q (v := .int .i64 ((i : Nat) : Int)) (x_assign rfl) ?_
     refine st_nil ?_
     refine kn61 _ _ ?_
     refine seqK fun Q64 kn65 kr66 ke67 => ?_
     refine regionD1 [3, 7] [0, 1, 2, 3, 4, 5, 6, 7, 8] (.one 0 (.one 1 (.one 2 (.one 3 (.one 4 (.one 5 (.one 6 (.one 7 (.one 8 .done))))))))) (by kernel_rfl) (by kernel_rfl) ?_
     intro w68 hx69 hs70
     have hF71 := hx69.e hx34 (Nat.le_refl _)
     have hE72 : Below w0.heap.size w0 w68 := hx69.e hE35 (Nat.le_refl _)
     have hz73 := hE72.le
     have hs74 := hx69.size
     have hS75 : Ext w68 w68 := Below.refl _ _
     refine d_q (v := .slice a xs.length ca) rfl rfl (fun _ => x_move rfl) ?_
     refine d_q (v := .int .i64 ((i : Nat) : Int)) rfl rfl (fun _ => x_move rfl) ?_
     obtain ⟨b76, o77, ha78, hc79⟩ := ha.at (by omega)
     refine d_q (v := .pointer (some ⟨b76, o77 + i * 1, none⟩)) rfl rfl (fun _ => x_index' T.sl42 rfl ha78 rfl (by omega)) ?_
     refine d_l (v := .string (el xs i)) rfl rfl rfl (fun v81 hw80 => x_load1 T.na9 rfl (((hc79.below hE72).elem enS_len (i := i) (by omega)).ext hw80)) ?_
     refine d_q (v := .slice b ys.length cb) rfl rfl (fun _ => x_move rfl) ?_
     refine d_q (v := .int .i64 ((i : Nat) : Int)) rfl rfl (fun _ => x_move rfl) ?_
     obtain ⟨b82, o83, ha84, hc85⟩ := hb.at (by omega)
     refine d_q (v := .pointer (some ⟨b82, o83 + i * 1, none⟩)) rfl rfl (fun _ => x_index' T.sl42 rfl ha84 rfl (by omega)) ?_
     refine d_l (v := .string (el ys i)) rfl rfl rfl (fun v87 hw86 => x_load1 T.na9 rfl (((hc85.below hE72).elem enS_len (i := i) (by omega)).ext hw86)) ?_
     refine d_q (v := .bool (decide ((el xs i).toList ≠ (el ys i).toList))) rfl rfl (fun _ => x_neqS rfl rfl) ?_
     refine d_done ?_
     refine kn65 _ _ ?_
     refine cnd (p := (el xs i).toList ≠ (el ys i).toList) rfl (fun h88 => ?_) (fun h88 => ?_)
     ·
      refine seqK fun Q89 kn90 kr91 ke92 => ?_
      refine region ?_
      refine st_q (v := .bool false) (x_assign rfl) ?_
      refine st_nil ?_
      refine kn90 _ _ ?_
      refine ret ?_
      refine kr57 _ _ ?_
      refine kr53 _ _ ?_
      refine kr40 _ _ ?_
      refine kr28 _ _ ?_
      refine kr20 _ _ ?_
      refine leave1 (P := Tryd.prog) (fn := Tryd.f55) (t := 4) (v := .bool false) rfl rfl ?_
      first | exact ⟨by rw [decide_eq_false fun e => by subst e; contradiction], hE72⟩ | exact ⟨by rw [decide_eq_false (fun e => by subst e; omega)], hE72⟩
     ·
      refine skip ?_
      refine kn56 _ _ ?_
      refine kn52 _ _ ?_
      refine region ?_
      refine st_q (v := .int .i64 (((i + 1) : Nat) : Int)) (x_addN rfl rfl (by omega)) ?_
      refine st_q (v := .int .i64 (((i + 1) : Nat) : Int)) (x_move rfl) ?_
      refine st_nil ?_
      refine kn39 _ ((i + 1)) _ ⟨rfl, rfl, rfl, rfl, trivial⟩ ⟨hF71, ?_⟩ ?_
      ·
       try dsimp only
       exact ⟨by omega, fun j h => by
         by_cases he : j = i
         · subst he; exact bytes_ext (Decidable.of_not_not (by assumption))
         · exact hI j (by omega)⟩
      ·
       (try dsimp only); omega
    ·
     refine exit ?_
     refine ke49 _ _ _ ?_
     refine ke41 _ _ _ ?_
     refine kb30 _ _ ?_
     refine kn19 _ _ ?_
     refine seqK fun Q93 kn94 kr95 ke96 => ?_
     refine region ?_
     refine st_q (v := .bool true) (x_assign rfl) ?_
     refine st_nil ?_
     refine kn94 _ _ ?_
     refine ret ?_
     refine leave1 (P := Tryd.prog) (fn := Tryd.f55) (t := 4) (v := .bool true) rfl rfl ?_
     exact ⟨by rw [decide_eq_true (list_ext_el (by omega) fun i h => hI i (by omega))], hE35⟩

set_option maxHeartbeats 4000000 in
theorem texts45 (a b : ByteArray) (w0 : World) : Calls Tryd.prog 45 #[.string a, .string b] w0 fun e w' => e = .returned (.int .i64 (txt a b)) ∧ w0 = w' := by
  refine enter Tryd.func45 rfl 13 Tryd.ntmps45 rfl ?_
  refine seqK fun Q1 kn2 kr3 ke4 => ?_
  refine region ?_
  refine st_q (v := .int .i64 ((0 : Nat) : Int)) (x_assign rfl) ?_
  refine st_nil ?_
  refine kn2 _ _ ?_
  refine seqK fun Q5 kn6 kr7 ke8 => ?_
  refine blockK fun Q9 kn10 kr11 kx12 kb13 => ?_
  refine seqK fun Q14 kn15 kr16 ke17 => ?_
  refine region ?_
  refine st_q (v := .string a) (x_move rfl) ?_
  refine st_q (v := .string b) (x_move rfl) ?_
  refine st_q (v := .bool (decide (Op.bytesLess a.toList b.toList = true))) (x_lssS rfl rfl) ?_
  refine st_q (v := .bool (decide (Op.bytesLess a.toList b.toList = true))) (x_assign rfl) ?_
  refine st_nil ?_
  refine kn15 _ _ ?_
  refine cnd (p := Op.bytesLess a.toList b.toList = true) rfl (fun h18 => ?_) (fun h18 => ?_)
  ·
   refine seqK fun Q19 kn20 kr21 ke22 => ?_
   refine region ?_
   refine st_q (v := .int .i64 (-1)) (x_assign rfl) ?_
   refine st_nil ?_
   refine kn20 _ _ ?_
   refine ret ?_
   refine kr11 _ _ ?_
   refine kr7 _ _ ?_
   refine leave1 (P := Tryd.prog) (fn := Tryd.f45) (t := 4) (v := .int .i64 (-1)) rfl rfl ?_
   exact ⟨by unfold txt; split <;> first | contradiction | rfl | (split <;> first | contradiction | rfl), rfl⟩
  ·
   refine seqK fun Q23 kn24 kr25 ke26 => ?_
   refine region ?_
   refine st_q (v := .string a) (x_move rfl) ?_
   refine st_q (v := .string b) (x_move rfl) ?_
   refine st_q (v := .bool (decide ((Op.bytesLess a.toList b.toList || a.toList == b.toList) = false))) (x_gtrS rfl rfl) ?_
   refine st_q (v := .bool (decide ((Op.bytesLess a.toList b.toList || a.toList == b.toList) = false))) (x_assign rfl) ?_
   refine st_nil ?_
   refine kn24 _ _ ?_
   refine cnd (p := (Op.bytesLess a.toList b.toList || a.toList == b.toList) = false) rfl (fun h27 => ?_) (fun h27 => ?_)
   ·
    refine seqK fun Q28 kn29 kr30 ke31 => ?_
    refine region ?_
    refine st_q (v := .int .i64 ((1 : Nat) : Int)) (x_assign rfl) ?_
    refine st_nil ?_
    refine kn29 _ _ ?_
    refine ret ?_
    refine kr11 _ _ ?_
    refine kr7 _ _ ?_
    refine leave1 (P := Tryd.prog) (fn := Tryd.f45) (t := 4) (v := .int .i64 ((1 : Nat) : Int)) rfl rfl ?_
    exact ⟨by unfold txt; split <;> first | contradiction | rfl | (split <;> first | contradiction | rfl), rfl⟩
   ·
    refine skip ?_
    refine kn10 _ _ ?_
    refine kn6 _ _ ?_
    refine seqK fun Q32 kn33 kr34 ke35 => ?_
    refine region ?_
    refine st_q (v := .int .i64 ((0 : Nat) : Int)) (x_assign rfl) ?_
    refine st_nil ?_
    refine kn33 _ _ ?_
    refine ret ?_
    refine leave1 (P := Tryd.prog) (fn := Tryd.f45) (t := 4) (v := .int .i64 ((0 : Nat) : Int)) rfl rfl ?_
    exact ⟨by unfold txt; split <;> first | contradiction | rfl | (split <;> first | contradiction | rfl), rfl⟩

set_option maxHeartbeats 4000000 in
theorem tuples54 (xs ys : List ByteArray) (va vb : Value) (w0 : World) (ha : Src w0.heap va xs.length 1 (flat enS xs)) (hb : Src w0.heap vb ys.length 1 (flat enS ys)) : Calls Tryd.prog 54 #[va, vb] w0 fun e w' => e = .returned (.int .i64 (tups xs ys)) ∧ Ext w0 w' := by
  have hE0 : Below w0.heap.size w0 w0 := Below.refl _ _
  have hz0 := hE0.le
  obtain ⟨a, ca, rfl, hca, hca1⟩ := ha.form
  obtain ⟨b, cb, rfl, hcb, hcb1⟩ := hb.form
  refine enter Tryd.func54 rfl 40 Tryd.ntmps54 rfl ?_
  refine seqK fun Q1 kn2 kr3 ke4 => ?_
  refine region ?_
  refine st_q (v := .int .i64 ((0 : Nat) : Int)) (x_assign rfl) ?_
  refine st_nil ?_
  refine kn2 _ _ ?_
  refine seqK fun Q5 kn6 kr7 ke8 => ?_
  refine seqK fun Q9 kn10 kr11 ke12 => ?_
  refine region ?_
  refine st_q (v := .slice a xs.length ca) (x_move rfl) ?_
  refine st_q (v := .int .i64 ((xs.length : Nat) : Int)) (x_lenSl rfl Tryd.underlying42 rfl) ?_
  refine st_q (v := .slice b ys.length cb) (x_move rfl) ?_
  refine st_q (v := .int .i64 ((ys.length : Nat) : Int)) (x_lenSl rfl Tryd.underlying42 rfl) ?_
  refine st_q (v := .int .i64 (((min xs.length ys.length) : Nat) : Int)) (x_minN rfl rfl) ?_
  refine st_q (v := .int .i64 ((0 : Nat) : Int)) (x_move rfl) ?_
  refine st_nil ?_
  refine kn10 _ _ ?_
  refine blockK fun Q13 kn14 kr15 kx16 kb17 => ?_
  refine loopK (α := Nat) (fun x => [(0, .slice a xs.length ca), (1, .slice b ys.length cb), (11, .int .i64 (((min xs.length ys.length) : Nat) : Int)), (12, .int .i64 ((x : Nat) : Int))]) (fun x w18 => Ext w0 w18 ∧ x ≤ xs.length ∧ x ≤ ys.length ∧ tups (xs.drop x) (ys.drop x) = tups xs ys) (fun x => xs.length - x) (0) ⟨rfl, rfl, rfl, rfl, trivial⟩ ?_ ?_
  ·
   refine ⟨Below.refl _ _, ?_⟩
   try dsimp only
   exact ⟨Nat.zero_le _, Nat.zero_le _, rfl⟩
  ·
   rintro τ19 k w20 ⟨hx21, ⟨hk1, hk2, hI⟩⟩
   try dsimp only at hk1 hk2 hI
   have hE22 : Below w0.heap.size w0 w20 := hx21.e hE0 (Nat.le_refl _)
   have hz23 := hE22.le
   have hs24 := hx21.size
   intro Q25 kn26 kr27 ke28
   refine seqK fun Q29 kn30 kr31 ke32 => ?_
   refine region ?_
   refine st_q (v := .bool (decide (k < ((min xs.length ys.length))))) (x_lssN rfl rfl) ?_
   refine st_nil ?_
   refine kn30 _ _ ?_
   refine seqK fun Q33 kn34 kr35 ke36 => ?_
   refine cnd (p := k < ((min xs.length ys.length))) rfl (fun h37 => ?_) (fun h37 => ?_)
   ·
    refine skip ?_
    refine kn34 _ _ ?_
    refine seqK fun Q38 kn39 kr40 ke41 => ?_
    refine blockK fun Q42 kn43 kr44 kx45 kb46 => ?_
    refine seqK fun Q47 kn48 kr49 ke50 => ?_
    refine region ?_
    refine st_q (v := .int .i64 ((k : Nat) : Int)) (x_move rfl) ?_
    refine st_q (v := .int .i64 ((k : Nat) : Int)) (x_assign rfl) ?_
    refine st_nil ?_
    refine kn48 _ _ ?_
    refine seqK fun Q51 kn52 kr53 ke54 => ?_
    refine regionD1 [3, 7] [0, 1, 2, 3, 4, 5, 6, 7, 9] (.one 0 (.one 1 (.one 2 (.one 3 (.one 4 (.one 5 (.one 6 (.one 7 (.one 8 (.one 9 .done)))))))))) (by kernel_rfl) (by kernel_rfl) ?_
    intro w55 hx56 hs57
    have hF58 := hx56.e hx21 (Nat.le_refl _)
    have hE59 : Below w0.heap.size w0 w55 := hx56.e hE22 (Nat.le_refl _)
    have hz60 := hE59.le
    have hs61 := hx56.size
    have hS62 : Ext w55 w55 := Below.refl _ _
    refine d_q (v := .slice a xs.length ca) rfl rfl (fun _ => x_move rfl) ?_
    refine d_q (v := .int .i64 ((k : Nat) : Int)) rfl rfl (fun _ => x_move rfl) ?_
    obtain ⟨b63, o64, ha65, hc66⟩ := ha.at (by omega)
    refine d_q (v := .pointer (some ⟨b63, o64 + k * 1, none⟩)) rfl rfl (fun _ => x_index' T.sl42 rfl ha65 rfl (by omega)) ?_
    refine d_l (v := .string (el xs k)) rfl rfl rfl (fun v68 hw67 => x_load1 T.na9 rfl (((hc66.below hE59).elem enS_len (i := k) (by omega)).ext hw67)) ?_
    refine d_q (v := .slice b ys.length cb) rfl rfl (fun _ => x_move rfl) ?_
    refine d_q (v := .int .i64 ((k : Nat) : Int)) rfl rfl (fun _ => x_move rfl) ?_
    obtain ⟨b69, o70, ha71, hc72⟩ := hb.at (by omega)
    refine d_q (v := .pointer (some ⟨b69, o70 + k * 1, none⟩)) rfl rfl (fun _ => x_index' T.sl42 rfl ha71 rfl (by omega)) ?_
    refine d_l (v := .string (el ys k)) rfl rfl rfl (fun v74 hw73 => x_load1 T.na9 rfl (((hc72.below hE59).elem enS_len (i := k) (by omega)).ext hw73)) ?_
    refine d_e (by decide) (d_c' rfl rfl (t_call [.string (el xs k), .string (el ys k)] T.cf45 rfl rfl) (texts45 (el xs k) (el ys k) _) ?_)
    rintro _ _ ⟨rfl, rfl⟩
    refine ⟨_, rfl, ?_⟩
    have hS75 := hS62
    refine ⟨fun _ => hS75, ?_⟩
    refine d_q (v := .int .i64 (txt (el xs k) (el ys k))) rfl rfl (fun _ => x_assign rfl) ?_
    refine d_done ?_
    refine kn52 _ _ ?_
    refine seqK fun Q76 kn77 kr78 ke79 => ?_
    refine region ?_
    refine st_q (v := .int .i64 (txt (el xs k) (el ys k))) (x_move rfl) ?_
    refine st_q (v := .bool (decide ((txt (el xs k) (el ys k)) ≠ 0))) (x_neq rfl rfl) ?_
    refine st_nil ?_
    refine kn77 _ _ ?_
    refine cnd (p := (txt (el xs k) (el ys k)) ≠ 0) rfl (fun h80 => ?_) (fun h80 => ?_)
    ·
     refine seqK fun Q81 kn82 kr83 ke84 => ?_
     refine region ?_
     refine st_q (v := .int .i64 (txt (el xs k) (el ys k))) (x_move rfl) ?_
     refine st_q (v := .int .i64 (txt (el xs k) (el ys k))) (x_assign rfl) ?_
     refine st_nil ?_
     refine kn82 _ _ ?_
     refine ret ?_
     refine kr44 _ _ ?_
     refine kr40 _ _ ?_
     refine kr27 _ _ ?_
     refine kr15 _ _ ?_
     refine kr7 _ _ ?_
     refine leave1 (P := Tryd.prog) (fn := Tryd.f54) (t := 4) (v := .int .i64 (txt (el xs k) (el ys k))) rfl rfl ?_
     exact ⟨by rw [← hI, tups_step (by omega) (by omega), if_neg h80], hE59⟩
    ·
     refine skip ?_
     refine kn43 _ _ ?_
     refine kn39 _ _ ?_
     refine region ?_
     refine st_q (v := .int .i64 (((k + 1) : Nat) : Int)) (x_addN rfl rfl (by omega)) ?_
     refine st_q (v := .int .i64 (((k + 1) : Nat) : Int)) (x_move rfl) ?_
     refine st_nil ?_
     refine kn26 _ ((k + 1)) _ ⟨rfl, rfl, rfl, rfl, trivial⟩ ⟨hF58, ?_⟩ ?_
     ·
      try dsimp only
      exact ⟨by omega, by omega, by rw [← hI]; exact ((tups_step (by omega) (by omega)).trans (if_pos (by simpa using h80))).symm⟩
     ·
      (try dsimp only); omega
   ·
    refine exit ?_
    refine ke36 _ _ _ ?_
    refine ke28 _ _ _ ?_
    refine kb17 _ _ ?_
    refine kn6 _ _ ?_
    refine seqK fun Q85 kn86 kr87 ke88 => ?_
    refine blockK fun Q89 kn90 kr91 kx92 kb93 => ?_
    refine seqK fun Q94 kn95 kr96 ke97 => ?_
    refine region ?_
    refine st_q (v := .slice a xs.length ca) (x_move rfl) ?_
    refine st_q (v := .int .i64 ((xs.length : Nat) : Int)) (x_lenSl rfl Tryd.underlying42 rfl) ?_
    refine st_q (v := .slice b ys.length cb) (x_move rfl) ?_
    refine st_q (v := .int .i64 ((ys.length : Nat) : Int)) (x_lenSl rfl Tryd.underlying42 rfl) ?_
    refine st_q (v := .bool (decide (xs.length < ys.length))) (x_lssN rfl rfl) ?_
    refine st_q (v := .bool (decide (xs.length < ys.length))) (x_assign rfl) ?_
    refine st_nil ?_
    refine kn95 _ _ ?_
    refine cnd (p := xs.length < ys.length) rfl (fun h98 => ?_) (fun h98 => ?_)
    ·
     refine seqK fun Q99 kn100 kr101 ke102 => ?_
     refine region ?_
     refine st_q (v := .int .i64 (-1)) (x_assign rfl) ?_
     refine st_nil ?_
     refine kn100 _ _ ?_
     refine ret ?_
     refine kr91 _ _ ?_
     refine kr87 _ _ ?_
     refine leave1 (P := Tryd.prog) (fn := Tryd.f54) (t := 4) (v := .int .i64 (-1)) rfl rfl ?_
     exact ⟨by rw [← hI, tups_end _ _ _ (by omega)]; (split <;> first | rfl | (exfalso; omega) | (split <;> first | rfl | (exfalso; omega))), hE22⟩
    ·
     refine seqK fun Q103 kn104 kr105 ke106 => ?_
     refine region ?_
     refine st_q (v := .slice a xs.length ca) (x_move rfl) ?_
     refine st_q (v := .int .i64 ((xs.length : Nat) : Int)) (x_lenSl rfl Tryd.underlying42 rfl) ?_
     refine st_q (v := .slice b ys.length cb) (x_move rfl) ?_
     refine st_q (v := .int .i64 ((ys.length : Nat) : Int)) (x_lenSl rfl Tryd.underlying42 rfl) ?_
     refine st_q (v := .bool (decide (ys.length < xs.length))) (x_gtrN rfl rfl) ?_
     refine st_q (v := .bool (decide (ys.length < xs.length))) (x_assign rfl) ?_
     refine st_nil ?_
     refine kn104 _ _ ?_
     refine cnd (p := ys.length < xs.length) rfl (fun h107 => ?_) (fun h107 => ?_)
     ·
      refine seqK fun Q108 kn109 kr110 ke111 => ?_
      refine region ?_
      refine st_q (v := .int .i64 ((1 : Nat) : Int)) (x_assign rfl) ?_
      refine st_nil ?_
      refine kn109 _ _ ?_
      refine ret ?_
      refine kr91 _ _ ?_
      refine kr87 _ _ ?_
      refine leave1 (P := Tryd.prog) (fn := Tryd.f54) (t := 4) (v := .int .i64 ((1 : Nat) : Int)) rfl rfl ?_
      exact ⟨by rw [← hI, tups_end _ _ _ (by omega)]; (split <;> first | rfl | (exfalso; omega) | (split <;> first | rfl | (exfalso; omega))), hE22⟩
     ·
      refine skip ?_
      refine kn90 _ _ ?_
      refine kn86 _ _ ?_
      refine seqK fun Q112 kn113 kr114 ke115 => ?_
      refine region ?_
      refine st_q (v := .int .i64 ((0 : Nat) : Int)) (x_assign rfl) ?_
      refine st_nil ?_
      refine kn113 _ _ ?_
      refine ret ?_
      refine leave1 (P := Tryd.prog) (fn := Tryd.f54) (t := 4) (v := .int .i64 ((0 : Nat) : Int)) rfl rfl ?_
      exact ⟨by rw [← hI, tups_end _ _ _ (by omega)]; (split <;> first | rfl | (exfalso; omega) | (split <;> first | rfl | (exfalso; omega))), hE22⟩

set_option maxHeartbeats 4000000 in
theorem ahead46 (xs ys : List ByteArray) (va vb : Value) (w0 : World) (ha : Src w0.heap va xs.length 1 (flat enS xs)) (hb : Src w0.heap vb ys.length 1 (flat enS ys)) : Calls Tryd.prog 46 #[va, vb] w0 fun e w' => e = .returned (.int .i64 (ahd xs ys)) ∧ Ext w0 w' := by
  have hE0 : Below w0.heap.size w0 w0 := Below.refl _ _
  have hz0 := hE0.le
  obtain ⟨a, ca, rfl, hca, hca1⟩ := ha.form
  obtain ⟨b, cb, rfl, hcb, hcb1⟩ := hb.form
  refine enter Tryd.func46 rfl 43 Tryd.ntmps46 rfl ?_
  refine seqK fun Q1 kn2 kr3 ke4 => ?_
  refine region ?_
  refine st_q (v := .int .i64 ((0 : Nat) : Int)) (x_assign rfl) ?_
  refine st_nil ?_
  refine kn2 _ _ ?_
  refine seqK fun Q5 kn6 kr7 ke8 => ?_
  refine seqK fun Q9 kn10 kr11 ke12 => ?_
  refine region ?_
  refine st_q (v := .int .i64 ((0 : Nat) : Int)) (x_assign rfl) ?_
  refine st_nil ?_
  refine kn10 _ _ ?_
  refine blockK fun Q13 kn14 kr15 kx16 kb17 => ?_
  refine loopK (α := Nat) (fun x => [(0, .slice a xs.length ca), (1, .slice b ys.length cb), (5, .int .i64 ((x : Nat) : Int))]) (fun x w18 => Ext w0 w18 ∧ x ≤ xs.length ∧ x ≤ ys.length ∧ ahd (xs.drop x) (ys.drop x) = ahd xs ys) (fun x => xs.length - x) (0) ⟨rfl, rfl, rfl, trivial⟩ ?_ ?_
  ·
   refine ⟨Below.refl _ _, ?_⟩
   try dsimp only
   exact ⟨Nat.zero_le _, Nat.zero_le _, rfl⟩
  ·
   rintro τ19 k w20 ⟨hx21, ⟨hk1, hk2, hI⟩⟩
   try dsimp only at hk1 hk2 hI
   have hE22 : Below w0.heap.size w0 w20 := hx21.e hE0 (Nat.le_refl _)
   have hz23 := hE22.le
   have hs24 := hx21.size
   intro Q25 kn26 kr27 ke28
   refine seqK fun Q29 kn30 kr31 ke32 => ?_
   refine seqK fun Q33 kn34 kr35 ke36 => ?_
   refine region ?_
   refine st_q (v := .int .i64 ((k : Nat) : Int)) (x_move rfl) ?_
   refine st_q (v := .slice a xs.length ca) (x_move rfl) ?_
   refine st_q (v := .int .i64 ((xs.length : Nat) : Int)) (x_lenSl rfl Tryd.underlying42 rfl) ?_
   refine st_q (v := .bool (decide (k < xs.length))) (x_lssN rfl rfl) ?_
   refine st_if (p := k < xs.length) (x_move rfl) (fun h37 => ?_) (fun h37 => ?_)
   ·
    refine st_gq 4 10 rfl rfl (by decide) ?_
    refine st_q (v := .int .i64 ((k : Nat) : Int)) (x_move rfl) ?_
    refine st_gq 4 10 rfl rfl (by decide) ?_
    refine st_q (v := .slice b ys.length cb) (x_move rfl) ?_
    refine st_gq 4 10 rfl rfl (by decide) ?_
    refine st_q (v := .int .i64 ((ys.length : Nat) : Int)) (x_lenSl rfl Tryd.underlying42 rfl) ?_
    refine st_gq 4 10 rfl rfl (by decide) ?_
    refine st_q (v := .bool (decide (k < ys.length))) (x_lssN rfl rfl) ?_
    refine st_q (v := .bool (decide (k < ys.length))) (x_pickT rfl rfl) ?_
    refine st_nil ?_
    refine kn34 _ _ ?_
    refine cnd (p := k < ys.length) rfl (fun h38 => ?_) (fun h38 => ?_)
    ·
     refine skip ?_
     refine kn30 _ _ ?_
     refine seqK fun Q39 kn40 kr41 ke42 => ?_
     refine blockK fun Q43 kn44 kr45 kx46 kb47 => ?_
     refine blockK fun Q48 kn49 kr50 kx51 kb52 => ?_
     refine seqK fun Q53 kn54 kr55 ke56 => ?_
     refine regionD1 [3, 7] [0, 1, 2, 3, 4, 5, 6, 7, 8, 9] (.one 0 (.one 1 (.one 2 (.one 3 (.one 4 (.one 5 (.one 6 (.one 7 (.one 8 (.one 9 .done)))))))))) (by kernel_rfl) (by kernel_rfl) ?_
     intro w57 hx58 hs59
     have hF60 := hx58.e hx21 (Nat.le_refl _)
     have hE61 : Below w0.heap.size w0 w57 := hx58.e hE22 (Nat.le_refl _)
     have hz62 := hE61.le
     have hs63 := hx58.size
     have hS64 : Ext w57 w57 := Below.refl _ _
     refine d_q (v := .slice a xs.length ca) rfl rfl (fun _ => x_move rfl) ?_
     refine d_q (v := .int .i64 ((k : Nat) : Int)) rfl rfl (fun _ => x_move rfl) ?_
     obtain ⟨b65, o66, ha67, hc68⟩ := ha.at (by omega)
     refine d_q (v := .pointer (some ⟨b65, o66 + k * 1, none⟩)) rfl rfl (fun _ => x_index' T.sl42 rfl ha67 rfl (by omega)) ?_
     refine d_l (v := .string (el xs k)) rfl rfl rfl (fun v70 hw69 => x_load1 T.na9 rfl (((hc68.below hE61).elem enS_len (i := k) (by omega)).ext hw69)) ?_
     refine d_q (v := .slice b ys.length cb) rfl rfl (fun _ => x_move rfl) ?_
     refine d_q (v := .int .i64 ((k : Nat) : Int)) rfl rfl (fun _ => x_move rfl) ?_
     obtain ⟨b71, o72, ha73, hc74⟩ := hb.at (by omega)
     refine d_q (v := .pointer (some ⟨b71, o72 + k * 1, none⟩)) rfl rfl (fun _ => x_index' T.sl42 rfl ha73 rfl (by omega)) ?_
     refine d_l (v := .string (el ys k)) rfl rfl rfl (fun v76 hw75 => x_load1 T.na9 rfl (((hc74.below hE61).elem enS_len (i := k) (by omega)).ext hw75)) ?_
     refine d_q (v := .bool (decide (Op.bytesLess (el xs k).toList (el ys k).toList = true))) rfl rfl (fun _ => x_lssS rfl rfl) ?_
     refine d_q (v := .bool (decide (Op.bytesLess (el xs k).toList (el ys k).toList = true))) rfl rfl (fun _ => x_assign rfl) ?_
     refine d_done ?_
     refine kn54 _ _ ?_
     refine cnd (p := Op.bytesLess (el xs k).toList (el ys k).toList = true) rfl (fun h77 => ?_) (fun h77 => ?_)
     ·
      refine seqK fun Q78 kn79 kr80 ke81 => ?_
      refine region ?_
      refine st_q (v := .int .i64 (-1)) (x_assign rfl) ?_
      refine st_nil ?_
      refine kn79 _ _ ?_
      refine ret ?_
      refine kr50 _ _ ?_
      refine kr45 _ _ ?_
      refine kr41 _ _ ?_
      refine kr27 _ _ ?_
      refine kr15 _ _ ?_
      refine kr7 _ _ ?_
      refine leave1 (P := Tryd.prog) (fn := Tryd.f46) (t := 4) (v := .int .i64 (-1)) rfl rfl ?_
      exact ⟨by rw [← hI, ahd_step (by omega) (by omega), txt_neg (by assumption), if_neg (by decide)], hE61⟩
     ·
      refine seqK fun Q82 kn83 kr84 ke85 => ?_
      refine regionD1 [3, 7] [0, 1, 2, 3, 4, 5, 6, 7, 8, 9] (.one 0 (.one 1 (.one 2 (.one 3 (.one 4 (.one 5 (.one 6 (.one 7 (.one 8 (.one 9 .done)))))))))) (by kernel_rfl) (by kernel_rfl) ?_
      intro w86 hx87 hs88
      have hF89 := hx87.e hF60 (Nat.le_refl _)
      have hE90 : Below w0.heap.size w0 w86 := hx87.e hE61 (Nat.le_refl _)
      have hz91 := hE90.le
      have hs92 := hx87.size
      have hS93 : Ext w86 w86 := Below.refl _ _
      refine d_q (v := .slice a xs.length ca) rfl rfl (fun _ => x_move rfl) ?_
      refine d_q (v := .int .i64 ((k : Nat) : Int)) rfl rfl (fun _ => x_move rfl) ?_
      refine d_q (v := .pointer (some ⟨b65, o66 + k * 1, none⟩)) rfl rfl (fun _ => x_index' T.sl42 rfl ha67 rfl (by omega)) ?_
      refine d_l (v := .string (el xs k)) rfl rfl rfl (fun v95 hw94 => x_load1 T.na9 rfl (((hc68.below hE90).elem enS_len (i := k) (by omega)).ext hw94)) ?_
      refine d_q (v := .slice b ys.length cb) rfl rfl (fun _ => x_move rfl) ?_
      refine d_q (v := .int .i64 ((k : Nat) : Int)) rfl rfl (fun _ => x_move rfl) ?_
      refine d_q (v := .pointer (some ⟨b71, o72 + k * 1, none⟩)) rfl rfl (fun _ => x_index' T.sl42 rfl ha73 rfl (by omega)) ?_
      refine d_l (v := .string (el ys k)) rfl rfl rfl (fun v97 hw96 => x_load1 T.na9 rfl (((hc74.below hE90).elem enS_len (i := k) (by omega)).ext hw96)) ?_
      refine d_q (v := .bool (decide ((Op.bytesLess (el xs k).toList (el ys k).toList || (el xs k).toList == (el ys k).toList) = false))) rfl rfl (fun _ => x_gtrS rfl rfl) ?_
      refine d_q (v := .bool (decide ((Op.bytesLess (el xs k).toList (el ys k).toList || (el xs k).toList == (el ys k).toList) = false))) rfl rfl (fun _ => x_assign rfl) ?_
      refine d_done ?_
      refine kn83 _ _ ?_
      refine cnd (p := (Op.bytesLess (el xs k).toList (el ys k).toList || (el xs k).toList == (el ys k).toList) = false) rfl (fun h98 => ?_) (fun h98 => ?_)
      ·
       refine seqK fun Q99 kn100 kr101 ke102 => ?_
       refine region ?_
       refine st_q (v := .int .i64 ((1 : Nat) : Int)) (x_assign rfl) ?_
       refine st_nil ?_
       refine kn100 _ _ ?_
       refine ret ?_
       refine kr50 _ _ ?_
       refine kr45 _ _ ?_
       refine kr41 _ _ ?_
       refine kr27 _ _ ?_
       refine kr15 _ _ ?_
       refine kr7 _ _ ?_
       refine leave1 (P := Tryd.prog) (fn := Tryd.f46) (t := 4) (v := .int .i64 ((1 : Nat) : Int)) rfl rfl ?_
       have et : txt (el xs k) (el ys k) = 1 := by unfold txt; rw [if_neg (by assumption), if_pos (by assumption)]
       exact ⟨by rw [← hI, ahd_step (by omega) (by omega), et, if_neg (by decide)]; rfl, hE90⟩
      ·
       refine skip ?_
       refine kn49 _ _ ?_
       refine kn44 _ _ ?_
       refine kn40 _ _ ?_
       refine region ?_
       refine st_q (v := .int .i64 ((k : Nat) : Int)) (x_move rfl) ?_
       refine st_q (v := .int .i64 (((k + 1) : Nat) : Int)) (x_addN rfl rfl (by omega)) ?_
       refine st_q (v := .int .i64 (((k + 1) : Nat) : Int)) (x_assign rfl) ?_
       refine st_nil ?_
       refine kn26 _ ((k + 1)) _ ⟨rfl, rfl, rfl, trivial⟩ ⟨hF89, ?_⟩ ?_
       ·
        try dsimp only
        exact ⟨by omega, by omega, by rw [← hI]; exact ((ahd_step (by omega) (by omega)).trans (if_pos (txt_of (by assumption) (by assumption)))).symm⟩
       ·
        (try dsimp only); omega
    ·
     refine exit ?_
     refine ke32 _ _ _ ?_
     refine ke28 _ _ _ ?_
     refine kb17 _ _ ?_
     refine kn6 _ _ ?_
     refine seqK fun Q103 kn104 kr105 ke106 => ?_
     refine region ?_
     refine st_q (v := .slice a xs.length ca) (x_move rfl) ?_
     refine st_q (v := .int .i64 ((xs.length : Nat) : Int)) (x_lenSl rfl Tryd.underlying42 rfl) ?_
     refine st_q (v := .slice b ys.length cb) (x_move rfl) ?_
     refine st_q (v := .int .i64 ((ys.length : Nat) : Int)) (x_lenSl rfl Tryd.underlying42 rfl) ?_
     refine st_q (v := .int .i64 ((((xs.length : Nat) : Int) - ((ys.length : Nat) : Int)))) (x_sub rfl rfl ⟨by omega, by omega⟩) ?_
     refine st_q (v := .int .i64 ((((xs.length : Nat) : Int) - ((ys.length : Nat) : Int)))) (x_assign rfl) ?_
     refine st_nil ?_
     refine kn104 _ _ ?_
     refine ret ?_
     refine leave1 (P := Tryd.prog) (fn := Tryd.f46) (t := 4) (v := .int .i64 ((((xs.length : Nat) : Int) - ((ys.length : Nat) : Int)))) rfl rfl ?_
     exact ⟨by rw [← hI, ahd_end _ _ _ (by omega) (by omega) (by omega)], hE22⟩
   ·
    refine st_gn 4 10 rfl rfl (by decide) rfl ?_
    refine st_gn 4 10 rfl rfl (by decide) rfl ?_
    refine st_gn 4 10 rfl rfl (by decide) rfl ?_
    refine st_gn 4 10 rfl rfl (by decide) rfl ?_
    refine st_q (v := .bool false) (x_pickF rfl rfl) ?_
    refine st_nil ?_
    refine kn34 _ _ ?_
    refine cndF rfl ?_
    refine exit ?_
    refine ke32 _ _ _ ?_
    refine ke28 _ _ _ ?_
    refine kb17 _ _ ?_
    refine kn6 _ _ ?_
    refine seqK fun Q107 kn108 kr109 ke110 => ?_
    refine region ?_
    refine st_q (v := .slice a xs.length ca) (x_move rfl) ?_
    refine st_q (v := .int .i64 ((xs.length : Nat) : Int)) (x_lenSl rfl Tryd.underlying42 rfl) ?_
    refine st_q (v := .slice b ys.length cb) (x_move rfl) ?_
    refine st_q (v := .int .i64 ((ys.length : Nat) : Int)) (x_lenSl rfl Tryd.underlying42 rfl) ?_
    refine st_q (v := .int .i64 ((((xs.length : Nat) : Int) - ((ys.length : Nat) : Int)))) (x_sub rfl rfl ⟨by omega, by omega⟩) ?_
    refine st_q (v := .int .i64 ((((xs.length : Nat) : Int) - ((ys.length : Nat) : Int)))) (x_assign rfl) ?_
    refine st_nil ?_
    refine kn108 _ _ ?_
    refine ret ?_
    refine leave1 (P := Tryd.prog) (fn := Tryd.f46) (t := 4) (v := .int .i64 ((((xs.length : Nat) : Int) - ((ys.length : Nat) : Int)))) rfl rfl ?_
    exact ⟨by rw [← hI, ahd_end _ _ _ (by omega) (by omega) (by omega)], hE22⟩

set_option maxHeartbeats 4000000 in
theorem like28 (x y : Nat) (w0 : World) : Calls Tryd.prog 28 #[.float .f64 x, .float .f64 y] w0 fun e w' => e = .returned (.bool (likeB x y)) ∧ w0 = w' := by
  refine enter Tryd.func28 rfl 18 Tryd.ntmps28 rfl ?_
  refine seqK fun Q1 kn2 kr3 ke4 => ?_
  refine region ?_
  refine st_q (v := .bool false) (x_assign rfl) ?_
  refine st_nil ?_
  refine kn2 _ _ ?_
  refine seqK fun Q5 kn6 kr7 ke8 => ?_
  refine region ?_
  refine st_q (v := .float .f64 x) (x_move rfl) ?_
  refine st_q (v := .float .f64 y) (x_move rfl) ?_
  refine st_q (v := .bool (decide (Flt.D.order x y = some .eq))) (x_eqlF rfl rfl) ?_
  refine st_if (p := Flt.D.order x y = some .eq) (x_move rfl) (fun h9 => ?_) (fun h9 => ?_)
  ·
   refine st_gn 3 8 rfl rfl (by decide) rfl ?_
   refine st_gn 3 8 rfl rfl (by decide) rfl ?_
   refine st_gn 3 8 rfl rfl (by decide) rfl ?_
   refine st_gn 3 8 rfl rfl (by decide) rfl ?_
   refine st_gu 7 12 rfl rfl (by decide) ?_
   refine st_gu 7 12 rfl rfl (by decide) ?_
   refine st_gu 7 12 rfl rfl (by decide) ?_
   refine st_gn 3 8 rfl rfl (by decide) rfl ?_
   refine st_q (v := .bool true) (x_pickT rfl rfl) ?_
   refine st_q (v := .bool true) (x_assign rfl) ?_
   refine st_nil ?_
   refine kn6 _ _ ?_
   refine ret ?_
   refine leave1 (P := Tryd.prog) (fn := Tryd.f28) (t := 4) (v := .bool true) rfl rfl ?_
   exact ⟨by unfold likeB; simp [*], rfl⟩
  ·
   refine st_gq 3 8 rfl rfl (by decide) ?_
   refine st_q (v := .float .f64 x) (x_move rfl) ?_
   refine st_gq 3 8 rfl rfl (by decide) ?_
   refine st_q (v := .float .f64 x) (x_move rfl) ?_
   refine st_gq 3 8 rfl rfl (by decide) ?_
   refine st_q (v := .bool (decide (¬ (Flt.D.order x x = some .eq)))) (x_neqF rfl rfl) ?_
   refine st_gq 3 8 rfl rfl (by decide) ?_
   refine st_if (p := ¬ (Flt.D.order x x = some .eq)) (x_move rfl) (fun h10 => ?_) (fun h10 => ?_)
   ·
    refine st_gq 7 12 rfl rfl (by decide) ?_
    refine st_q (v := .float .f64 y) (x_move rfl) ?_
    refine st_gq 7 12 rfl rfl (by decide) ?_
    refine st_q (v := .float .f64 y) (x_move rfl) ?_
    refine st_gq 7 12 rfl rfl (by decide) ?_
    refine st_q (v := .bool (decide (¬ (Flt.D.order y y = some .eq)))) (x_neqF rfl rfl) ?_
    refine st_gq 3 8 rfl rfl (by decide) ?_
    refine st_q (v := .bool (decide (¬ (Flt.D.order y y = some .eq)))) (x_pickT rfl rfl) ?_
    refine st_q (v := .bool (decide (¬ (Flt.D.order y y = some .eq)))) (x_pickF rfl rfl) ?_
    refine st_q (v := .bool (decide (¬ (Flt.D.order y y = some .eq)))) (x_assign rfl) ?_
    refine st_nil ?_
    refine kn6 _ _ ?_
    refine ret ?_
    refine leave1 (P := Tryd.prog) (fn := Tryd.f28) (t := 4) (v := .bool (decide (¬ (Flt.D.order y y = some .eq)))) rfl rfl ?_
    exact ⟨by unfold likeB; simp [*], rfl⟩
   ·
    refine st_gn 7 12 rfl rfl (by decide) rfl ?_
    refine st_gn 7 12 rfl rfl (by decide) rfl ?_
    refine st_gn 7 12 rfl rfl (by decide) rfl ?_
    refine st_gq 3 8 rfl rfl (by decide) ?_
    refine st_q (v := .bool false) (x_pickF rfl rfl) ?_
    refine st_q (v := .bool false) (x_pickF rfl rfl) ?_
    refine st_q (v := .bool false) (x_assign rfl) ?_
    refine st_nil ?_
    refine kn6 _ _ ?_
    refine ret ?_
    refine leave1 (P := Tryd.prog) (fn := Tryd.f28) (t := 4) (v := .bool false) rfl rfl ?_
    exact ⟨by unfold likeB; simp [*], rfl⟩

set_option maxHeartbeats 4000000 in
theorem same41 (L M : List Row) (va vb : Value) (w0 : World) (ha : Src w0.heap va L.length 1 (flat enR L)) (hb : Src w0.heap vb M.length 1 (flat enR M)) (hL : RowsP w0.heap L) (hM : RowsP w0.heap M) : Calls Tryd.prog 41 #[va, vb] w0 fun e w' => e = .returned (.bool (decide (tp L = tp M))) ∧ Ext w0 w' := by
  have hE0 : Below w0.heap.size w0 w0 := Below.refl _ _
  have hz0 := hE0.le
  obtain ⟨a, ca, rfl, hca, hca1⟩ := ha.form
  obtain ⟨b, cb, rfl, hcb, hcb1⟩ := hb.form
  refine enter Tryd.func41 rfl 27 Tryd.ntmps41 rfl ?_
  refine seqK fun Q1 kn2 kr3 ke4 => ?_
  refine region ?_
  refine st_q (v := .bool false) (x_assign rfl) ?_
  refine st_nil ?_
  refine kn2 _ _ ?_
  refine seqK fun Q5 kn6 kr7 ke8 => ?_
  refine seqK fun Q9 kn10 kr11 ke12 => ?_
  refine region ?_
  refine st_q (v := .slice a L.length ca) (x_move rfl) ?_
  refine st_q (v := .int .i64 ((L.length : Nat) : Int)) (x_lenSl rfl Tryd.underlying27 rfl) ?_
  refine st_q (v := .slice b M.length cb) (x_move rfl) ?_
  refine st_q (v := .int .i64 ((M.length : Nat) : Int)) (x_lenSl rfl Tryd.underlying27 rfl) ?_
  refine st_q (v := .bool (decide (L.length ≠ M.length))) (x_neqN rfl rfl) ?_
  refine st_nil ?_
  refine kn10 _ _ ?_
  refine cnd (p := L.length ≠ M.length) rfl (fun h13 => ?_) (fun h13 => ?_)
  ·
   refine seqK fun Q14 kn15 kr16 ke17 => ?_
   refine region ?_
   refine st_q (v := .bool false) (x_assign rfl) ?_
   refine st_nil ?_
   refine kn15 _ _ ?_
   refine ret ?_
   refine kr7 _ _ ?_
   refine leave1 (P := Tryd.prog) (fn := Tryd.f41) (t := 4) (v := .bool false) rfl rfl ?_
   first | exact ⟨by rw [decide_eq_false fun e => absurd (show (el L i).2 = (el M i).2 by rw [← tp_el (by omega), ← tp_el (by omega), e]) (by assumption)], hE0⟩ | exact ⟨by rw [decide_eq_false (fun e => absurd (show L.length = M.length by rw [← tp_len, ← tp_len, e]) (by omega))], hE0⟩
  ·
   refine skip ?_
   refine kn6 _ _ ?_
   refine seqK fun Q18 kn19 kr20 ke21 => ?_
   refine seqK fun Q22 kn23 kr24 ke25 => ?_
   refine region ?_
   refine st_q (v := .int .i64 ((0 : Nat) : Int)) (x_assign rfl) ?_
   refine st_nil ?_
   refine kn23 _ _ ?_
   refine blockK fun Q26 kn27 kr28 kx29 kb30 => ?_
   refine loopK (α := Nat) (fun x => [(0, .slice a L.length ca), (1, .slice b M.length cb), (5, .int .i64 ((x : Nat) : Int))]) (fun x w31 => Ext w0 w31 ∧ x ≤ L.length ∧ ∀ j, j < x → (el L j).2 = (el M j).2) (fun x => L.length - x) (0) ⟨rfl, rfl, rfl, trivial⟩ ?_ ?_
   ·
    refine ⟨Below.refl _ _, ?_⟩
    try dsimp only
    exact ⟨Nat.zero_le _, fun j h => by omega⟩
   ·
    rintro τ32 i w33 ⟨hx34, ⟨hi, hI⟩⟩
    try dsimp only at hi hI
    have hE35 : Below w0.heap.size w0 w33 := hx34.e hE0 (Nat.le_refl _)
    have hz36 := hE35.le
    have hs37 := hx34.size
    intro Q38 kn39 kr40 ke41
    refine seqK fun Q42 kn43 kr44 ke45 => ?_
    refine seqK fun Q46 kn47 kr48 ke49 => ?_
    refine region ?_
    refine st_q (v := .int .i64 ((i : Nat) : Int)) (x_move rfl) ?_
    refine st_q (v := .slice a L.length ca) (x_move rfl) ?_
    refine st_q (v := .int .i64 ((L.length : Nat) : Int)) (x_lenSl rfl Tryd.underlying27 rfl) ?_
    refine st_q (v := .bool (decide (i < L.length))) (x_lssN rfl rfl) ?_
    refine st_nil ?_
    refine kn47 _ _ ?_
    refine cnd (p := i < L.length) rfl (fun h50 => ?_) (fun h50 => ?_)
    ·
     refine skip ?_
     refine kn43 _ _ ?_
     refine seqK fun Q51 kn52 kr53 ke54 => ?_
     refine blockK fun Q55 kn56 kr57 kx58 kb59 => ?_
     refine seqK fun Q60 kn61 kr62 ke63 => ?_
     refine regionD1 [3, 7] [0, 1, 2, 3, 4, 5, 6, 7, 9] (.one 0 (.one 1 (.one 2 (.one 3 (.one 4 (.one 5 (.one 6 (.one 7 (.one 8 (.one 9 .done)))))))))) (by kernel_rfl) (by kernel_rfl) ?_
     intro w64 hx65 hs66
     have hF67 := hx65.e hx34 (Nat.le_refl _)
     have hE68 : Below w0.heap.size w0 w64 := hx65.e hE35 (Nat.le_refl _)
     have hz69 := hE68.le
     have hs70 := hx65.size
     have hS71 : Ext w64 w64 := Below.refl _ _
     refine d_q (v := .slice a L.length ca) rfl rfl (fun _ => x_move rfl) ?_
     refine d_q (v := .int .i64 ((i : Nat) : Int)) rfl rfl (fun _ => x_move rfl) ?_
     obtain ⟨b72, o73, ha74, hc75⟩ := ha.at (by omega)
     refine d_q (v := .pointer (some ⟨b72, o73 + i * 1, none⟩)) rfl rfl (fun _ => x_index' T.sl27 rfl ha74 rfl (by omega)) ?_
     have hs78 := RowsP.at (hL) (i := i) (by omega)
     have hq79 := hs78.capl
     refine d_l (v := .slice ((el L i).1.1) ((el L i).2.length) ((el L i).1.2)) rfl rfl rfl (fun v77 hw76 => x_load1 T.na42 rfl (((hc75.below hE68).elem enR_len (i := i) (by omega)).ext hw76)) ?_
     refine d_q (v := .slice b M.length cb) rfl rfl (fun _ => x_move rfl) ?_
     refine d_q (v := .int .i64 ((i : Nat) : Int)) rfl rfl (fun _ => x_move rfl) ?_
     obtain ⟨b80, o81, ha82, hc83⟩ := hb.at (by omega)
     refine d_q (v := .pointer (some ⟨b80, o81 + i * 1, none⟩)) rfl rfl (fun _ => x_index' T.sl27 rfl ha82 rfl (by omega)) ?_
     have hs86 := RowsP.at (hM) (i := i) (by omega)
     have hq87 := hs86.capl
     refine d_l (v := .slice ((el M i).1.1) ((el M i).2.length) ((el M i).1.2)) rfl rfl rfl (fun v85 hw84 => x_load1 T.na42 rfl (((hc83.below hE68).elem enR_len (i := i) (by omega)).ext hw84)) ?_
     refine d_e (by decide) (d_c' rfl rfl (t_call [.slice ((el L i).1.1) ((el L i).2.length) ((el L i).1.2), .slice ((el M i).1.1) ((el M i).2.length) ((el M i).1.2)] T.cf21 rfl rfl) (same21 (el L i).2 (el M i).2 _ _ _ (hs78.below hE68) (hs86.below hE68)) ?_)
     rintro _ w88 ⟨rfl, hx89⟩
     refine ⟨_, rfl, ?_⟩
     have hF90 := hx89.e hF67 (Nat.le_refl _)
     have hE91 : Below w0.heap.size w0 w88 := hx89.e hE68 (Nat.le_refl _)
     have hz92 := hE91.le
     have hs93 := hx89.size
     have hS94 := hS71.trans (hx89.mono hS71.size)
     refine ⟨fun _ => hS94, ?_⟩
     refine d_q (v := .bool (decide (¬ ((el L i).2 = (el M i).2)))) rfl rfl (fun _ => x_notP rfl) ?_
     refine d_done ?_
     refine kn61 _ _ ?_
     refine cnd (p := ¬ ((el L i).2 = (el M i).2)) rfl (fun h95 => ?_) (fun h95 => ?_)
     ·
      refine seqK fun Q96 kn97 kr98 ke99 => ?_
      refine region ?_
      refine st_q (v := .bool false) (x_assign rfl) ?_
      refine st_nil ?_
      refine kn97 _ _ ?_
      refine ret ?_
      refine kr57 _ _ ?_
      refine kr53 _ _ ?_
      refine kr40 _ _ ?_
      refine kr28 _ _ ?_
      refine kr20 _ _ ?_
      refine leave1 (P := Tryd.prog) (fn := Tryd.f41) (t := 4) (v := .bool false) rfl rfl ?_
      first | exact ⟨by rw [decide_eq_false fun e => absurd (show (el L i).2 = (el M i).2 by rw [← tp_el (by omega), ← tp_el (by omega), e]) (by assumption)], hE91⟩ | exact ⟨by rw [decide_eq_false (fun e => absurd (show L.length = M.length by rw [← tp_len, ← tp_len, e]) (by omega))], hE91⟩
     ·
      refine skip ?_
      refine kn56 _ _ ?_
      refine kn52 _ _ ?_
      refine region ?_
      refine st_q (v := .int .i64 ((i : Nat) : Int)) (x_move rfl) ?_
      refine st_q (v := .int .i64 (((i + 1) : Nat) : Int)) (x_addN rfl rfl (by omega)) ?_
      refine st_q (v := .int .i64 (((i + 1) : Nat) : Int)) (x_assign rfl) ?_
      refine st_nil ?_
      refine kn39 _ ((i + 1)) _ ⟨rfl, rfl, rfl, trivial⟩ ⟨hF90, ?_⟩ ?_
      ·
       try dsimp only
       exact ⟨by omega, fun j h => by
         by_cases he : j = i
         · subst he; exact Decidable.of_not_not (by assumption)
         · exact hI j (by omega)⟩
      ·
       (try dsimp only); omega
    ·
     refine exit ?_
     refine ke45 _ _ _ ?_
     refine ke41 _ _ _ ?_
     refine kb30 _ _ ?_
     refine kn19 _ _ ?_
     refine seqK fun Q100 kn101 kr102 ke103 => ?_
     refine region ?_
     refine st_q (v := .bool true) (x_assign rfl) ?_
     refine st_nil ?_
     refine kn101 _ _ ?_
     refine ret ?_
     refine leave1 (P := Tryd.prog) (fn := Tryd.f41) (t := 4) (v := .bool true) rfl rfl ?_
     exact ⟨by rw [decide_eq_true (tp_ext (by omega) fun i h => hI i (by omega))], hE35⟩

set_option maxHeartbeats 4000000 in
theorem right34 (pr : ByteArray) (ar : Int) (L : List Row) (va : Value) (w0 : World) (ha : Src w0.heap va L.length 1 (flat enR L)) (hL : RowsP w0.heap L) : Calls Tryd.prog 34 #[.agg #[.string pr, .int .i64 ar, va]] w0 fun e w' => e = .returned (.bool (decide (RightR ar (tp L)))) ∧ Ext w0 w' := by
  have hE0 : Below w0.heap.size w0 w0 := Below.refl _ _
  have hz0 := hE0.le
  obtain ⟨a, ca, rfl, hca, hca1⟩ := ha.form
  refine enter Tryd.func34 rfl 28 Tryd.ntmps34 rfl ?_
  refine seqK fun Q1 kn2 kr3 ke4 => ?_
  refine region ?_
  refine st_e (e_box (v := .agg #[.string pr, .int .i64 ar, .slice a L.length ca]) rfl ?_)
  intro w5 hA6
  have hx7 := hA6.ext
  have hs8 := hA6.size
  have hB9 : Blk w5.heap w0.heap.size [.string pr, .int .i64 ar, .slice a L.length ca] 29 := hA6.new
  have hE10 : Below w0.heap.size w0 w5 := hx7.e hE0 (Nat.le_refl _)
  have hz11 := hE10.le
  have hs12 := hx7.size
  refine st_q (v := .bool false) (x_assign rfl) ?_
  refine st_nil ?_
  refine kn2 _ _ ?_
  refine seqK fun Q13 kn14 kr15 ke16 => ?_
  refine seqK fun Q17 kn18 kr19 ke20 => ?_
  refine region ?_
  refine st_q (v := .int .i64 ((0 : Nat) : Int)) (x_assign rfl) ?_
  refine st_nil ?_
  refine kn18 _ _ ?_
  refine blockK fun Q21 kn22 kr23 kx24 kb25 => ?_
  refine loopK (α := Nat) (fun x => [(1, .pointer (some ⟨w0.heap.size, 0, none⟩)), (3, .int .i64 ((x : Nat) : Int))]) (fun x w26 => Ext w5 w26 ∧ x ≤ L.length ∧ ∀ j, j < x → ((el L j).2.length : Int) = ar) (fun x => L.length - x) (0) ⟨rfl, rfl, trivial⟩ ?_ ?_
  ·
   refine ⟨Below.refl _ _, ?_⟩
   try dsimp only
   exact ⟨Nat.zero_le _, fun j h => by omega⟩
  ·
   rintro τ27 i w28 ⟨hx29, ⟨hi, hI⟩⟩
   try dsimp only at hi hI
   have hB30 := hB9.ext hx29
   have hE31 : Below w0.heap.size w0 w28 := hx29.e hE10 (Nat.le_refl _)
   have hz32 := hE31.le
   have hs33 := hx29.size
   intro Q34 kn35 kr36 ke37
   refine seqK fun Q38 kn39 kr40 ke41 => ?_
   refine seqK fun Q42 kn43 kr44 ke45 => ?_
   refine region ?_
   refine st_q (v := .int .i64 ((i : Nat) : Int)) (x_move rfl) ?_
   refine st_q (v := .pointer (some ⟨w0.heap.size, 2, none⟩)) (x_field (o := 0) T.fa29_2 rfl) ?_
   refine st_q (v := .slice a L.length ca) (x_load1 T.na27 rfl (hB30.one 2 rfl)) ?_
   refine st_q (v := .int .i64 ((L.length : Nat) : Int)) (x_lenSl rfl Tryd.underlying27 rfl) ?_
   refine st_q (v := .bool (decide (i < L.length))) (x_lssN rfl rfl) ?_
   refine st_nil ?_
   refine kn43 _ _ ?_
   refine cnd (p := i < L.length) rfl (fun h46 => ?_) (fun h46 => ?_)
   ·
    refine skip ?_
    refine kn39 _ _ ?_
    refine seqK fun Q47 kn48 kr49 ke50 => ?_
    refine blockK fun Q51 kn52 kr53 kx54 kb55 => ?_
    refine seqK fun Q56 kn57 kr58 ke59 => ?_
    refine regionD1 [1, 4, 7] [0, 1, 2, 3, 4, 5, 6, 7, 8] (.one 0 (.one 1 (.one 2 (.one 3 (.one 4 (.one 5 (.one 6 (.one 7 (.one 8 .done))))))))) (by kernel_rfl) (by kernel_rfl) ?_
    intro w60 hx61 hs62
    have hB63 := hB30.ext hx61
    have hF64 := hx61.e hx29 (Nat.le_refl _)
    have hE65 : Below w0.heap.size w0 w60 := hx61.e hE31 (Nat.le_refl _)
    have hz66 := hE65.le
    have hs67 := hx61.size
    have hS68 : Ext w60 w60 := Below.refl _ _
    refine d_q (v := .pointer (some ⟨w0.heap.size, 2, none⟩)) rfl rfl (fun _ => x_field (o := 0) T.fa29_2 rfl) ?_
    refine d_l (v := .slice a L.length ca) rfl rfl rfl (fun v70 hw69 => x_load1 T.na27 rfl ((hB63.one 2 rfl).ext hw69)) ?_
    refine d_q (v := .int .i64 ((i : Nat) : Int)) rfl rfl (fun _ => x_move rfl) ?_
    obtain ⟨b71, o72, ha73, hc74⟩ := ha.at (by omega)
    refine d_q (v := .pointer (some ⟨b71, o72 + i * 1, none⟩)) rfl rfl (fun _ => x_index' T.sl27 rfl ha73 rfl (by omega)) ?_
    have hs77 := RowsP.at (hL) (i := i) (by omega)
    have hq78 := hs77.capl
    refine d_l (v := .slice ((el L i).1.1) ((el L i).2.length) ((el L i).1.2)) rfl rfl rfl (fun v76 hw75 => x_load1 T.na42 rfl (((hc74.below hE65).elem enR_len (i := i) (by omega)).ext hw75)) ?_
    refine d_q (v := .int .i64 (((el L i).2.length : Nat) : Int)) rfl rfl (fun _ => x_lenSl rfl Tryd.underlying42 rfl) ?_
    refine d_q (v := .pointer (some ⟨w0.heap.size, 1, none⟩)) rfl rfl (fun _ => x_field (o := 0) T.fa29_1 rfl) ?_
    refine d_l (v := .int .i64 ar) rfl rfl rfl (fun v80 hw79 => x_load1 T.na3 rfl ((hB63.one 1 rfl).ext hw79)) ?_
    refine d_q (v := .bool (decide (((((el L i).2.length : Nat) : Int)) ≠ ar))) rfl rfl (fun _ => x_neq rfl rfl) ?_
    refine d_done ?_
    refine kn57 _ _ ?_
    refine cnd (p := ((((el L i).2.length : Nat) : Int)) ≠ ar) rfl (fun h81 => ?_) (fun h81 => ?_)
    ·
     refine seqK fun Q82 kn83 kr84 ke85 => ?_
     refine region ?_
     refine st_q (v := .bool false) (x_assign rfl) ?_
     refine st_nil ?_
     refine kn83 _ _ ?_
     refine ret ?_
     refine kr53 _ _ ?_
     refine kr49 _ _ ?_
     refine kr36 _ _ ?_
     refine kr23 _ _ ?_
     refine kr15 _ _ ?_
     refine leave1 (P := Tryd.prog) (fn := Tryd.f34) (t := 2) (v := .bool false) rfl rfl ?_
     first | exact ⟨by rw [decide_eq_false fun hh => absurd (hh.1 _ (el_tp_mem (i := i) (by omega))) (by assumption)], hE65⟩ | exact ⟨by rw [decide_eq_false fun hh => absurd hh.2.1 (by assumption)], hE65⟩
    ·
     refine skip ?_
     refine kn52 _ _ ?_
     refine kn48 _ _ ?_
     refine region ?_
     refine st_q (v := .int .i64 ((i : Nat) : Int)) (x_move rfl) ?_
     refine st_q (v := .int .i64 (((i + 1) : Nat) : Int)) (x_addN rfl rfl (by omega)) ?_
     refine st_q (v := .int .i64 (((i + 1) : Nat) : Int)) (x_assign rfl) ?_
     refine st_nil ?_
     refine kn35 _ ((i + 1)) _ ⟨rfl, rfl, trivial⟩ ⟨hF64, ?_⟩ ?_
     ·
      try dsimp only
      exact ⟨by omega, fun j h => by
        by_cases he : j = i
        · subst he; omega
        · exact hI j (by omega)⟩
     ·
      (try dsimp only); omega
   ·
    refine exit ?_
    refine ke41 _ _ _ ?_
    refine ke37 _ _ _ ?_
    refine kb25 _ _ ?_
    refine kn14 _ _ ?_
    refine seqK fun Q86 kn87 kr88 ke89 => ?_
    refine region ?_
    refine st_q (v := .pointer (some ⟨w0.heap.size, 1, none⟩)) (x_field (o := 0) T.fa29_1 rfl) ?_
    refine st_q (v := .int .i64 ar) (x_load1 T.na3 rfl (hB30.one 1 rfl)) ?_
    refine st_q (v := .bool (decide (0 ≤ ar))) (x_geq rfl rfl) ?_
    refine st_if (p := 0 ≤ ar) (x_move rfl) (fun h90 => ?_) (fun h90 => ?_)
    ·
     refine st_gq 3 23 rfl rfl (by decide) ?_
     refine st_q (v := .pointer (some ⟨w0.heap.size, 1, none⟩)) (x_field (o := 0) T.fa29_1 rfl) ?_
     refine st_gq 3 23 rfl rfl (by decide) ?_
     refine st_q (v := .int .i64 ar) (x_load1 T.na3 rfl (hB30.one 1 rfl)) ?_
     refine st_gq 3 23 rfl rfl (by decide) ?_
     refine st_q (v := .bool (decide (ar ≤ 16))) (x_leq rfl rfl) ?_
     refine st_q (v := .bool (decide (ar ≤ 16))) (x_pickT rfl rfl) ?_
     refine st_q (v := .bool (decide (ar ≤ 16))) (x_assign rfl) ?_
     refine st_nil ?_
     refine kn87 _ _ ?_
     refine ret ?_
     refine leave1 (P := Tryd.prog) (fn := Tryd.f34) (t := 2) (v := .bool (decide (ar ≤ 16))) rfl rfl ?_
     exact ⟨by rw [show decide (ar ≤ 16) = decide (RightR ar (tp L)) from decide_eq_decide.2 ⟨fun _ => ⟨tp_all fun i hi => hI i (by omega), by omega, by omega⟩, fun hh => hh.2.2⟩], hE31⟩
    ·
     refine st_gn 3 23 rfl rfl (by decide) rfl ?_
     refine st_gn 3 23 rfl rfl (by decide) rfl ?_
     refine st_gn 3 23 rfl rfl (by decide) rfl ?_
     refine st_q (v := .bool false) (x_pickF rfl rfl) ?_
     refine st_q (v := .bool false) (x_assign rfl) ?_
     refine st_nil ?_
     refine kn87 _ _ ?_
     refine ret ?_
     refine leave1 (P := Tryd.prog) (fn := Tryd.f34) (t := 2) (v := .bool false) rfl rfl ?_
     first | exact ⟨by rw [decide_eq_false fun hh => absurd (hh.1 _ (el_tp_mem (i := i) (by omega))) (by assumption)], hE31⟩ | exact ⟨by rw [decide_eq_false fun hh => absurd hh.2.1 (by assumption)], hE31⟩

set_option maxHeartbeats 4000000 in
theorem columns35 (pr : ByteArray) (ar : Int) (va : Value) (ls : List Int) (vb : Value) (w0 : World) (hb : Src w0.heap vb ls.length 1 (flat enI ls)) : Calls Tryd.prog 35 #[.agg #[.string pr, .int .i64 ar, va], vb] w0 fun e w' => e = .returned (.bool (decide (ColsOK ar ls))) ∧ Ext w0 w' := by
  have hE0 : Below w0.heap.size w0 w0 := Below.refl _ _
  have hz0 := hE0.le
  obtain ⟨b, cb, rfl, hcb, hcb1⟩ := hb.form
  refine enter Tryd.func35 rfl 41 Tryd.ntmps35 rfl ?_
  refine seqK fun Q1 kn2 kr3 ke4 => ?_
  refine region ?_
  refine st_e (e_box (v := .agg #[.string pr, .int .i64 ar, va]) rfl ?_)
  intro w5 hA6
  have hx7 := hA6.ext
  have hs8 := hA6.size
  have hB9 : Blk w5.heap w0.heap.size [.string pr, .int .i64 ar, va] 29 := hA6.new
  have hE10 : Below w0.heap.size w0 w5 := hx7.e hE0 (Nat.le_refl _)
  have hz11 := hE10.le
  have hs12 := hx7.size
  refine st_q (v := .bool false) (x_assign rfl) ?_
  refine st_nil ?_
  refine kn2 _ _ ?_
  refine seqK fun Q13 kn14 kr15 ke16 => ?_
  refine seqK fun Q17 kn18 kr19 ke20 => ?_
  refine region ?_
  refine st_q (v := .int .i64 ((0 : Nat) : Int)) (x_assign rfl) ?_
  refine st_nil ?_
  refine kn18 _ _ ?_
  refine blockK fun Q21 kn22 kr23 kx24 kb25 => ?_
  refine loopK (α := Nat) (fun x => [(1, .slice b ls.length cb), (2, .pointer (some ⟨w0.heap.size, 0, none⟩)), (5, .int .i64 ((x : Nat) : Int))]) (fun x w26 => Ext w5 w26 ∧ x ≤ ls.length ∧ ∀ j, j < x → badC ar (el ls j) = false ∧ ∀ k, k < j → el ls k ≠ el ls j) (fun x => ls.length - x) (0) ⟨rfl, rfl, rfl, trivial⟩ ?_ ?_
  ·
   refine ⟨Below.refl _ _, ?_⟩
   try dsimp only
   exact ⟨Nat.zero_le _, fun j h => by omega⟩
  ·
   rintro τ27 i w28 ⟨hx29, ⟨hi, hI⟩⟩
   try dsimp only at hi hI
   have hB30 := hB9.ext hx29
   have hE31 : Below w0.heap.size w0 w28 := hx29.e hE10 (Nat.le_refl _)
   have hz32 := hE31.le
   have hs33 := hx29.size
   intro Q34 kn35 kr36 ke37
   refine seqK fun Q38 kn39 kr40 ke41 => ?_
   refine seqK fun Q42 kn43 kr44 ke45 => ?_
   refine region ?_
   refine st_q (v := .int .i64 ((i : Nat) : Int)) (x_move rfl) ?_
   refine st_q (v := .slice b ls.length cb) (x_move rfl) ?_
   refine st_q (v := .int .i64 ((ls.length : Nat) : Int)) (x_lenSl rfl Tryd.underlying30 rfl) ?_
   refine st_q (v := .bool (decide (i < ls.length))) (x_lssN rfl rfl) ?_
   refine st_nil ?_
   refine kn43 _ _ ?_
   refine cnd (p := i < ls.length) rfl (fun h46 => ?_) (fun h46 => ?_)
   ·
    refine skip ?_
    refine kn39 _ _ ?_
    refine seqK fun Q47 kn48 kr49 ke50 => ?_
    refine blockK fun Q51 kn52 kr53 kx54 kb55 => ?_
    refine seqK fun Q56 kn57 kr58 ke59 => ?_
    refine seqK fun Q60 kn61 kr62 ke63 => ?_
    refine regionD1 [3, 9, 11] [0, 1, 2, 3, 4, 5, 6, 7, 8, 9, 10, 11, 12, 13] (.one 0 (.one 1 (.one 2 (.one 3 (.one 4 (.one 5 (.one 6 (.one 7 (.one 8 (.one 9 (.one 10 (.one 11 (.one 12 (.one 13 .done)))))))))))))) (by kernel_rfl) (by kernel_rfl) ?_
    intro w64 hx65 hs66
    have hB67 := hB30.ext hx65
    have hF68 := hx65.e hx29 (Nat.le_refl _)
    have hE69 : Below w0.heap.size w0 w64 := hx65.e hE31 (Nat.le_refl _)
    have hz70 := hE69.le
    have hs71 := hx65.size
    have hS72 : Ext w64 w64 := Below.refl _ _
    refine d_q (v := .slice b ls.length cb) rfl rfl (fun _ => x_move rfl) ?_
    refine d_q (v := .int .i64 ((i : Nat) : Int)) rfl rfl (fun _ => x_move rfl) ?_
    obtain ⟨b73, o74, ha75, hc76⟩ := hb.at (by omega)
    refine d_q (v := .pointer (some ⟨b73, o74 + i * 1, none⟩)) rfl rfl (fun _ => x_index' T.sl30 rfl ha75 rfl (by omega)) ?_
    refine d_l (v := .int .i64 ((el ls i))) rfl rfl rfl (fun v78 hw77 => x_load1 T.na3 rfl (((hc76.below hE69).elem enI_len (i := i) (by omega)).ext hw77)) ?_
    refine d_q (v := .bool (decide (((el ls i)) < 0))) rfl rfl (fun _ => x_lss rfl rfl) ?_
    refine d_if rfl rfl (p := ((el ls i)) < 0) (fun _ => x_move rfl) (fun h79 => ?_) (fun h79 => ?_)
    ·
     refine d_gn (j := 5) (t := 18) rfl rfl rfl rfl (by decide) rfl ?_
     refine d_gn (j := 5) (t := 18) rfl rfl rfl rfl (by decide) rfl ?_
     refine d_gn (j := 5) (t := 18) rfl rfl rfl rfl (by decide) rfl ?_
     refine d_gn (j := 5) (t := 18) rfl rfl rfl rfl (by decide) rfl ?_
     refine d_gn (j := 5) (t := 18) rfl rfl rfl rfl (by decide) rfl ?_
     refine d_gn (j := 5) (t := 18) rfl rfl rfl rfl (by decide) rfl ?_
     refine d_gn (j := 5) (t := 18) rfl rfl rfl rfl (by decide) rfl ?_
     refine d_q (v := .bool true) rfl rfl (fun _ => x_pickT rfl rfl) ?_
     refine d_done ?_
     refine kn61 _ _ ?_
     refine cndT rfl ?_
     refine seqK fun Q80 kn81 kr82 ke83 => ?_
     refine region ?_
     refine st_q (v := .bool false) (x_assign rfl) ?_
     refine st_nil ?_
     refine kn81 _ _ ?_
     refine ret ?_
     refine kr58 _ _ ?_
     refine kr53 _ _ ?_
     refine kr49 _ _ ?_
     refine kr36 _ _ ?_
     refine kr23 _ _ ?_
     refine kr15 _ _ ?_
     refine leave1 (P := Tryd.prog) (fn := Tryd.f35) (t := 4) (v := .bool false) rfl rfl ?_
     first | exact ⟨by rw [decide_eq_false fun hh => absurd (hh i (by omega)).1 (by unfold badC; rw [decide_eq_true (by omega)]; decide)], hE69⟩ | exact ⟨by rw [decide_eq_false fun hh => absurd ((hh i (by omega)).2 k (by omega)) (by simpa using (by assumption))], hE69⟩
    ·
     refine d_gq (v := .slice b ls.length cb) (j := 5) (t := 18) rfl rfl rfl rfl (by decide) (fun _ => x_move rfl) ?_
     refine d_gq (v := .int .i64 ((i : Nat) : Int)) (j := 5) (t := 18) rfl rfl rfl rfl (by decide) (fun _ => x_move rfl) ?_
     refine d_gq (v := .pointer (some ⟨b73, o74 + i * 1, none⟩)) (j := 5) (t := 18) rfl rfl rfl rfl (by decide) (fun _ => x_index' T.sl30 rfl ha75 rfl (by omega)) ?_
     refine d_gl (v := .int .i64 ((el ls i))) (j := 5) (t := 18) rfl rfl rfl rfl rfl (by decide) (fun v85 hw84 => x_load1 T.na3 rfl (((hc76.below hE69).elem enI_len (i := i) (by omega)).ext hw84)) ?_
     refine d_gq (v := .pointer (some ⟨w0.heap.size, 1, none⟩)) (j := 5) (t := 18) rfl rfl rfl rfl (by decide) (fun _ => x_field (o := 0) T.fa29_1 rfl) ?_
     refine d_gl (v := .int .i64 ar) (j := 5) (t := 18) rfl rfl rfl rfl rfl (by decide) (fun v87 hw86 => x_load1 T.na3 rfl ((hB67.one 1 rfl).ext hw86)) ?_
     refine d_gq (v := .bool (decide (ar ≤ ((el ls i))))) (j := 5) (t := 18) rfl rfl rfl rfl (by decide) (fun _ => x_geq rfl rfl) ?_
     refine d_q (v := .bool (decide (ar ≤ ((el ls i))))) rfl rfl (fun _ => x_pickF rfl rfl) ?_
     refine d_done ?_
     refine kn61 _ _ ?_
     refine cnd (p := ar ≤ ((el ls i))) rfl (fun h88 => ?_) (fun h88 => ?_)
     ·
      refine seqK fun Q89 kn90 kr91 ke92 => ?_
      refine region ?_
      refine st_q (v := .bool false) (x_assign rfl) ?_
      refine st_nil ?_
      refine kn90 _ _ ?_
      refine ret ?_
      refine kr58 _ _ ?_
      refine kr53 _ _ ?_
      refine kr49 _ _ ?_
      refine kr36 _ _ ?_
      refine kr23 _ _ ?_
      refine kr15 _ _ ?_
      refine leave1 (P := Tryd.prog) (fn := Tryd.f35) (t := 4) (v := .bool false) rfl rfl ?_
      first | exact ⟨by rw [decide_eq_false fun hh => absurd (hh i (by omega)).1 (by unfold badC; rw [decide_eq_true (by omega)]; decide)], hE69⟩ | exact ⟨by rw [decide_eq_false fun hh => absurd ((hh i (by omega)).2 k (by omega)) (by simpa using (by assumption))], hE69⟩
     ·
      refine skip ?_
      refine kn57 _ _ ?_
      refine seqK fun Q93 kn94 kr95 ke96 => ?_
      refine region ?_
      refine st_q (v := .int .i64 ((0 : Nat) : Int)) (x_assign rfl) ?_
      refine st_nil ?_
      refine kn94 _ _ ?_
      refine blockK fun Q97 kn98 kr99 kx100 kb101 => ?_
      refine loopK (α := Nat) (fun x => [(1, .slice b ls.length cb), (2, .pointer (some ⟨w0.heap.size, 0, none⟩)), (5, .int .i64 ((i : Nat) : Int)), (6, .int .i64 ((x : Nat) : Int))]) (fun x w102 => Ext w64 w102 ∧ x ≤ i ∧ ∀ m, m < x → el ls m ≠ el ls i) (fun x => i - x) (0) ⟨rfl, rfl, rfl, rfl, trivial⟩ ?_ ?_
      ·
       refine ⟨Below.refl _ _, ?_⟩
       try dsimp only
       exact ⟨Nat.zero_le _, fun j h => by omega⟩
      ·
       rintro τ103 k w104 ⟨hx105, ⟨hk, hK⟩⟩
       try dsimp only at hk hK
       have hB106 := hB67.ext hx105
       have hF107 := hx105.e hF68 (Nat.le_refl _)
       have hE108 : Below w0.heap.size w0 w104 := hx105.e hE69 (Nat.le_refl _)
       have hz109 := hE108.le
       have hs110 := hx105.size
       intro Q111 kn112 kr113 ke114
       refine seqK fun Q115 kn116 kr117 ke118 => ?_
       refine seqK fun Q119 kn120 kr121 ke122 => ?_
       refine region ?_
       refine st_q (v := .int .i64 ((k : Nat) : Int)) (x_move rfl) ?_
       refine st_q (v := .int .i64 ((i : Nat) : Int)) (x_move rfl) ?_
       refine st_q (v := .bool (decide (k < i))) (x_lssN rfl rfl) ?_
       refine st_nil ?_
       refine kn120 _ _ ?_
       refine cnd (p := k < i) rfl (fun h123 => ?_) (fun h123 => ?_)
       ·
        refine skip ?_
        refine kn116 _ _ ?_
        refine seqK fun Q124 kn125 kr126 ke127 => ?_
        refine blockK fun Q128 kn129 kr130 kx131 kb132 => ?_
        refine seqK fun Q133 kn134 kr135 ke136 => ?_
        refine regionD1 [3, 7] [0, 1, 2, 3, 4, 5, 6, 7, 8] (.one 0 (.one 1 (.one 2 (.one 3 (.one 4 (.one 5 (.one 6 (.one 7 (.one 8 .done))))))))) (by kernel_rfl) (by kernel_rfl) ?_
        intro w137 hx138 hs139
        have hB140 := hB106.ext hx138
        have hF141 := hx138.e hF107 (Nat.le_refl _)
        have hF142 := hx138.e hx105 (Nat.le_refl _)
        have hE143 : Below w0.heap.size w0 w137 := hx138.e hE108 (Nat.le_refl _)
        have hz144 := hE143.le
        have hs145 := hx138.size
        have hS146 : Ext w137 w137 := Below.refl _ _
        refine d_q (v := .slice b ls.length cb) rfl rfl (fun _ => x_move rfl) ?_
        refine d_q (v := .int .i64 ((k : Nat) : Int)) rfl rfl (fun _ => x_move rfl) ?_
        refine d_q (v := .pointer (some ⟨b73, o74 + k * 1, none⟩)) rfl rfl (fun _ => x_index' T.sl30 rfl ha75 rfl (by omega)) ?_
        refine d_l (v := .int .i64 ((el ls k))) rfl rfl rfl (fun v148 hw147 => x_load1 T.na3 rfl (((hc76.below hE143).elem enI_len (i := k) (by omega)).ext hw147)) ?_
        refine d_q (v := .slice b ls.length cb) rfl rfl (fun _ => x_move rfl) ?_
        refine d_q (v := .int .i64 ((i : Nat) : Int)) rfl rfl (fun _ => x_move rfl) ?_
        refine d_q (v := .pointer (some ⟨b73, o74 + i * 1, none⟩)) rfl rfl (fun _ => x_index' T.sl30 rfl ha75 rfl (by omega)) ?_
        refine d_l (v := .int .i64 ((el ls i))) rfl rfl rfl (fun v150 hw149 => x_load1 T.na3 rfl (((hc76.below hE143).elem enI_len (i := i) (by omega)).ext hw149)) ?_
        refine d_q (v := .bool (decide (((el ls k)) = ((el ls i))))) rfl rfl (fun _ => x_eql rfl rfl) ?_
        refine d_done ?_
        refine kn134 _ _ ?_
        refine cnd (p := ((el ls k)) = ((el ls i))) rfl (fun h151 => ?_) (fun h151 => ?_)
        ·
         refine seqK fun Q152 kn153 kr154 ke155 => ?_
         refine region ?_
         refine st_q (v := .bool false) (x_assign rfl) ?_
         refine st_nil ?_
         refine kn153 _ _ ?_
         refine ret ?_
         refine kr130 _ _ ?_
         refine kr126 _ _ ?_
         refine kr113 _ _ ?_
         refine kr99 _ _ ?_
         refine kr53 _ _ ?_
         refine kr49 _ _ ?_
         refine kr36 _ _ ?_
         refine kr23 _ _ ?_
         refine kr15 _ _ ?_
         refine leave1 (P := Tryd.prog) (fn := Tryd.f35) (t := 4) (v := .bool false) rfl rfl ?_
         first | exact ⟨by rw [decide_eq_false fun hh => absurd (hh i (by omega)).1 (by unfold badC; rw [decide_eq_true (by omega)]; decide)], hE143⟩ | exact ⟨by rw [decide_eq_false fun hh => absurd ((hh i (by omega)).2 k (by omega)) (by simpa using (by assumption))], hE143⟩
        ·
         refine skip ?_
         refine kn129 _ _ ?_
         refine kn125 _ _ ?_
         refine region ?_
         refine st_q (v := .int .i64 ((k : Nat) : Int)) (x_move rfl) ?_
         refine st_q (v := .int .i64 (((k + 1) : Nat) : Int)) (x_addN rfl rfl (by omega)) ?_
         refine st_q (v := .int .i64 (((k + 1) : Nat) : Int)) (x_assign rfl) ?_
         refine st_nil ?_
         refine kn112 _ ((k + 1)) _ ⟨rfl, rfl, rfl, rfl, trivial⟩ ⟨hF142, ?_⟩ ?_
         ·
          try dsimp only
          exact ⟨by omega, fun m h => by
            by_cases he : m = k
            · subst he; assumption
            · exact hK m (by omega)⟩
         ·
          (try dsimp only); omega
       ·
        refine exit ?_
        refine ke118 _ _ _ ?_
        refine ke114 _ _ _ ?_
        refine kb101 _ _ ?_
        refine kn52 _ _ ?_
        refine kn48 _ _ ?_
        refine region ?_
        refine st_q (v := .int .i64 ((i : Nat) : Int)) (x_move rfl) ?_
        refine st_q (v := .int .i64 (((i + 1) : Nat) : Int)) (x_addN rfl rfl (by omega)) ?_
        refine st_q (v := .int .i64 (((i + 1) : Nat) : Int)) (x_assign rfl) ?_
        refine st_nil ?_
        refine kn35 _ ((i + 1)) _ ⟨rfl, rfl, rfl, trivial⟩ ⟨hF107, ?_⟩ ?_
        ·
         try dsimp only
         exact ⟨by omega, fun j h => by
           by_cases he : j = i
           · subst he; exact ⟨by unfold badC; exact decide_eq_false (by omega), fun m hm => hK m (by omega)⟩
           · exact hI j (by omega)⟩
        ·
         (try dsimp only); omega
   ·
    refine exit ?_
    refine ke41 _ _ _ ?_
    refine ke37 _ _ _ ?_
    refine kb25 _ _ ?_
    refine kn14 _ _ ?_
    refine seqK fun Q156 kn157 kr158 ke159 => ?_
    refine region ?_
    refine st_q (v := .bool true) (x_assign rfl) ?_
    refine st_nil ?_
    refine kn157 _ _ ?_
    refine ret ?_
    refine leave1 (P := Tryd.prog) (fn := Tryd.f35) (t := 4) (v := .bool true) rfl rfl ?_
    exact ⟨by rw [decide_eq_true (show ColsOK ar ls from fun i hi => hI i (by omega))], hE31⟩

set_option maxHeartbeats 4000000 in
theorem bad58 (pb : Nat) (pr : ByteArray) (ar : Int) (va : Value) (c : Int) (w0 : World) (hC : Blk w0.heap pb [.string pr, .int .i64 ar, va] 29) : Calls Tryd.prog 58 #[.int .i64 c, .pointer (some ⟨pb, 0, none⟩)] w0 fun e w' => e = .returned (.bool (badC ar c)) ∧ Ext w0 w' := by
  have hE0 : Below w0.heap.size w0 w0 := Below.refl _ _
  have hz0 := hE0.le
  refine enter Tryd.func58 rfl 12 Tryd.ntmps58 rfl ?_
  refine seqK fun Q1 kn2 kr3 ke4 => ?_
  refine region ?_
  refine st_q (v := .bool false) (x_assign rfl) ?_
  refine st_nil ?_
  refine kn2 _ _ ?_
  refine seqK fun Q5 kn6 kr7 ke8 => ?_
  refine region ?_
  refine st_q (v := .int .i64 c) (x_move rfl) ?_
  refine st_q (v := .bool (decide (c < 0))) (x_lss rfl rfl) ?_
  refine st_if (p := c < 0) (x_move rfl) (fun h9 => ?_) (fun h9 => ?_)
  ·
   refine st_gn 2 6 rfl rfl (by decide) rfl ?_
   refine st_gn 2 6 rfl rfl (by decide) rfl ?_
   refine st_gn 2 6 rfl rfl (by decide) rfl ?_
   refine st_gn 2 6 rfl rfl (by decide) rfl ?_
   refine st_q (v := .bool true) (x_pickT rfl rfl) ?_
   refine st_q (v := .bool true) (x_assign rfl) ?_
   refine st_nil ?_
   refine kn6 _ _ ?_
   refine ret ?_
   refine leave1 (P := Tryd.prog) (fn := Tryd.f58) (t := 3) (v := .bool true) rfl rfl ?_
   exact ⟨by unfold badC; first | rw [decide_eq_true (p := c < 0 ∨ ar ≤ c) (by omega)] | rw [show decide (c < 0 ∨ ar ≤ c) = decide (ar ≤ c) from decide_eq_decide.2 (by omega)], hE0⟩
  ·
   refine st_gq 2 6 rfl rfl (by decide) ?_
   refine st_q (v := .int .i64 c) (x_move rfl) ?_
   refine st_gq 2 6 rfl rfl (by decide) ?_
   refine st_q (v := .pointer (some ⟨pb, 1, none⟩)) (x_field (o := 0) T.fa29_1 rfl) ?_
   refine st_gq 2 6 rfl rfl (by decide) ?_
   refine st_q (v := .int .i64 ar) (x_load1 T.na3 rfl (hC.one 1 rfl)) ?_
   refine st_gq 2 6 rfl rfl (by decide) ?_
   refine st_q (v := .bool (decide (ar ≤ c))) (x_geq rfl rfl) ?_
   refine st_q (v := .bool (decide (ar ≤ c))) (x_pickF rfl rfl) ?_
   refine st_q (v := .bool (decide (ar ≤ c))) (x_assign rfl) ?_
   refine st_nil ?_
   refine kn6 _ _ ?_
   refine ret ?_
   refine leave1 (P := Tryd.prog) (fn := Tryd.f58) (t := 3) (v := .bool (decide (ar ≤ c))) rfl rfl ?_
   exact ⟨by unfold badC; first | rw [decide_eq_true (p := c < 0 ∨ ar ≤ c) (by omega)] | rw [show decide (c < 0 ∨ ar ≤ c) = decide (ar ≤ c) from decide_eq_decide.2 (by omega)], hE0⟩

set_option maxHeartbeats 4000000 in
theorem index72 (pb : Nat) (pr : ByteArray) (ar : Int) (va : Value) (ls : List Int) (vb : Value) (w0 : World) (hC : Blk w0.heap pb [.string pr, .int .i64 ar, va] 29) (hb : Src w0.heap vb ls.length 1 (flat enI ls)) : Calls Tryd.prog 72 #[vb, .func (.func 58) #[] #[.pointer (some ⟨pb, 0, none⟩)]] w0 fun e w' => ∃ r : Int, e = .returned (.int .i64 r) ∧ (0 ≤ r ↔ ∃ i, i < ls.length ∧ badC ar (el ls i) = true) ∧ Ext w0 w' := by
  have hE0 : Below w0.heap.size w0 w0 := Below.refl _ _
  have hz0 := hE0.le
  obtain ⟨b, cb, rfl, hcb, hcb1⟩ := hb.form
  refine enter Tryd.func72 rfl 19 Tryd.ntmps72 rfl ?_
  refine seqK fun Q1 kn2 kr3 ke4 => ?_
  refine region ?_
  refine st_q (v := .int .i64 ((0 : Nat) : Int)) (x_assign rfl) ?_
  refine st_nil ?_
  refine kn2 _ _ ?_
  refine seqK fun Q5 kn6 kr7 ke8 => ?_
  refine seqK fun Q9 kn10 kr11 ke12 => ?_
  refine region ?_
  refine st_q (v := .slice b ls.length cb) (x_move rfl) ?_
  refine st_q (v := .int .i64 ((ls.length : Nat) : Int)) (x_lenSl rfl Tryd.underlying30 rfl) ?_
  refine st_q (v := .int .i64 ((0 : Nat) : Int)) (x_move rfl) ?_
  refine st_nil ?_
  refine kn10 _ _ ?_
  refine blockK fun Q13 kn14 kr15 kx16 kb17 => ?_
  refine loopK (α := Nat) (fun x => [(0, .slice b ls.length cb), (1, .func (.func 58) #[] #[.pointer (some ⟨pb, 0, none⟩)]), (7, .int .i64 ((ls.length : Nat) : Int)), (8, .int .i64 ((x : Nat) : Int))]) (fun x w18 => Ext w0 w18 ∧ x ≤ ls.length ∧ ∀ j, j < x → badC ar (el ls j) = false) (fun x => ls.length - x) (0) ⟨rfl, rfl, rfl, rfl, trivial⟩ ?_ ?_
  ·
   refine ⟨Below.refl _ _, ?_⟩
   try dsimp only
   exact ⟨Nat.zero_le _, fun j h => by omega⟩
  ·
   rintro τ19 i w20 ⟨hx21, ⟨hi, hI⟩⟩
   try dsimp only at hi hI
   have hB22 := hC.ext hx21
   have hE23 : Below w0.heap.size w0 w20 := hx21.e hE0 (Nat.le_refl _)
   have hz24 := hE23.le
   have hs25 := hx21.size
   intro Q26 kn27 kr28 ke29
   refine seqK fun Q30 kn31 kr32 ke33 => ?_
   refine region ?_
   refine st_q (v := .bool (decide (i < ls.length))) (x_lssN rfl rfl) ?_
   refine st_nil ?_
   refine kn31 _ _ ?_
   refine seqK fun Q34 kn35 kr36 ke37 => ?_
   refine cnd (p := i < ls.length) rfl (fun h38 => ?_) (fun h38 => ?_)
   ·
    refine skip ?_
    refine kn35 _ _ ?_
    refine seqK fun Q39 kn40 kr41 ke42 => ?_
    refine blockK fun Q43 kn44 kr45 kx46 kb47 => ?_
    refine seqK fun Q48 kn49 kr50 ke51 => ?_
    refine region ?_
    refine st_q (v := .int .i64 ((i : Nat) : Int)) (x_move rfl) ?_
    refine st_q (v := .int .i64 ((i : Nat) : Int)) (x_assign rfl) ?_
    refine st_nil ?_
    refine kn49 _ _ ?_
    refine seqK fun Q52 kn53 kr54 ke55 => ?_
    refine region ?_
    refine st_q (v := .func (.func 58) #[] #[.pointer (some ⟨pb, 0, none⟩)]) (x_move rfl) ?_
    refine st_q (v := .slice b ls.length cb) (x_move rfl) ?_
    refine st_q (v := .int .i64 ((i : Nat) : Int)) (x_move rfl) ?_
    obtain ⟨b56, o57, ha58, hc59⟩ := hb.at (by omega)
    refine st_q (v := .pointer (some ⟨b56, o57 + i * 1, none⟩)) (x_index' T.sl30 rfl ha58 rfl (by omega)) ?_
    refine st_q (v := .int .i64 ((el ls i))) (x_load1 T.na3 rfl ((hc59.below hE23).elem enI_len (i := i) (by omega))) ?_
    refine st_c (t_call [.int .i64 ((el ls i)), .pointer (some ⟨pb, 0, none⟩)] T.cf58 rfl rfl) (bad58 pb pr ar va ((el ls i)) _ hB22) ?_
    rintro _ w60 ⟨rfl, hx61⟩
    refine ⟨_, rfl, ?_⟩
    have hB62 := hB22.ext hx61
    have hF63 := hx61.e hx21 (Nat.le_refl _)
    have hE64 : Below w0.heap.size w0 w60 := hx61.e hE23 (Nat.le_refl _)
    have hz65 := hE64.le
    have hs66 := hx61.size
    refine st_nil ?_
    refine kn53 _ _ ?_
    refine cndB (b := (badC ar ((el ls i)))) rfl (fun h67 => ?_) (fun h67 => ?_)
    ·
     refine seqK fun Q68 kn69 kr70 ke71 => ?_
     refine region ?_
     refine st_q (v := .int .i64 ((i : Nat) : Int)) (x_move rfl) ?_
     refine st_q (v := .int .i64 ((i : Nat) : Int)) (x_assign rfl) ?_
     refine st_nil ?_
     refine kn69 _ _ ?_
     refine ret ?_
     refine kr45 _ _ ?_
     refine kr41 _ _ ?_
     refine kr28 _ _ ?_
     refine kr15 _ _ ?_
     refine kr7 _ _ ?_
     refine leave1 (P := Tryd.prog) (fn := Tryd.f72) (t := 4) (v := .int .i64 ((i : Nat) : Int)) rfl rfl ?_
     exact ⟨_, rfl, ⟨fun _ => ⟨i, by omega, by assumption⟩, fun _ => by omega⟩, hE64⟩
    ·
     refine skip ?_
     refine kn44 _ _ ?_
     refine kn40 _ _ ?_
     refine region ?_
     refine st_q (v := .int .i64 (((i + 1) : Nat) : Int)) (x_addN rfl rfl (by omega)) ?_
     refine st_q (v := .int .i64 (((i + 1) : Nat) : Int)) (x_move rfl) ?_
     refine st_nil ?_
     refine kn27 _ ((i + 1)) _ ⟨rfl, rfl, rfl, rfl, trivial⟩ ⟨hF63, ?_⟩ ?_
     ·
      try dsimp only
      exact ⟨by omega, fun j h => by
        by_cases he : j = i
        · subst he; assumption
        · exact hI j (by omega)⟩
     ·
      (try dsimp only); omega
   ·
    refine exit ?_
    refine ke37 _ _ _ ?_
    refine ke29 _ _ _ ?_
    refine kb17 _ _ ?_
    refine kn6 _ _ ?_
    refine seqK fun Q72 kn73 kr74 ke75 => ?_
    refine region ?_
    refine st_q (v := .int .i64 (-1)) (x_assign rfl) ?_
    refine st_nil ?_
    refine kn73 _ _ ?_
    refine ret ?_
    refine leave1 (P := Tryd.prog) (fn := Tryd.f72) (t := 4) (v := .int .i64 (-1)) rfl rfl ?_
    exact ⟨_, rfl, ⟨fun hh => absurd hh (by decide), fun ⟨i, hi, hb⟩ => by rw [hI i (by omega)] at hb; cases hb⟩, hE23⟩

set_option maxHeartbeats 4000000 in
theorem contains57 (pb : Nat) (pr : ByteArray) (ar : Int) (va : Value) (ls : List Int) (vb : Value) (w0 : World) (hC : Blk w0.heap pb [.string pr, .int .i64 ar, va] 29) (hb : Src w0.heap vb ls.length 1 (flat enI ls)) : Calls Tryd.prog 57 #[vb, .func (.func 58) #[] #[.pointer (some ⟨pb, 0, none⟩)]] w0 fun e w' => e = .returned (.bool (decide (∃ i, i < ls.length ∧ badC ar (el ls i) = true))) ∧ Ext w0 w' := by
  have hE0 : Below w0.heap.size w0 w0 := Below.refl _ _
  have hz0 := hE0.le
  obtain ⟨b, cb, rfl, hcb, hcb1⟩ := hb.form
  refine enter Tryd.func57 rfl 9 Tryd.ntmps57 rfl ?_
  refine seqK fun Q1 kn2 kr3 ke4 => ?_
  refine region ?_
  refine st_q (v := .bool false) (x_assign rfl) ?_
  refine st_nil ?_
  refine kn2 _ _ ?_
  refine seqK fun Q5 kn6 kr7 ke8 => ?_
  refine region ?_
  refine st_q (v := .slice b ls.length cb) (x_move rfl) ?_
  refine st_q (v := .func (.func 58) #[] #[.pointer (some ⟨pb, 0, none⟩)]) (x_move rfl) ?_
  refine st_c (t_call [.slice b ls.length cb, .func (.func 58) #[] #[.pointer (some ⟨pb, 0, none⟩)]] T.cf72 rfl rfl) (index72 pb pr ar va ls _ _ hC (hb.below hE0)) ?_
  rintro _ w9 ⟨r, rfl, hr, hx10⟩
  refine ⟨_, rfl, ?_⟩
  have hB11 := hC.ext hx10
  have hE12 : Below w0.heap.size w0 w9 := hx10.e hE0 (Nat.le_refl _)
  have hz13 := hE12.le
  have hs14 := hx10.size
  refine st_q (v := .bool (decide (0 ≤ r))) (x_geq rfl rfl) ?_
  refine st_q (v := .bool (decide (0 ≤ r))) (x_assign rfl) ?_
  refine st_nil ?_
  refine kn6 _ _ ?_
  refine ret ?_
  refine leave1 (P := Tryd.prog) (fn := Tryd.f57) (t := 4) (v := .bool (decide (0 ≤ r))) rfl rfl ?_
  exact ⟨by rw [show decide (0 ≤ r) = decide (∃ i, i < ls.length ∧ badC ar (el ls i) = true) from decide_eq_decide.2 hr], hE12⟩

def ColsIn (ar : Int) (ls : List Int) : Prop := ∀ i, i < ls.length → badC ar (el ls i) = false
instance (ar : Int) (ls : List Int) : Decidable (ColsIn ar ls) := inferInstanceAs (Decidable (∀ i, i < ls.length → _))
theorem colsIn_iff {ar : Int} {ls : List Int} : ColsIn ar ls ↔ ¬ ∃ i, i < ls.length ∧ badC ar (el ls i) = true := by
  constructor
  · rintro h ⟨i, hi, hb⟩; rw [h i hi] at hb; cases hb
  · intro h i hi
    cases hb : badC ar (el ls i)
    · rfl
    · exact absurd ⟨i, hi, hb⟩ h
def rightB (ar : Int) (P : List Tup) (ls : List Int) : Prop := RightR ar P ∧ ColsIn ar ls
instance (ar : Int) (P : List Tup) (ls : List Int) : Decidable (rightB ar P ls) := inferInstanceAs (Decidable (_ ∧ _))
set_option maxHeartbeats 4000000 in
theorem right39 (pr : ByteArray) (ar : Int) (L : List Row) (va : Value) (ls : List Int) (vb : Value) (w0 : World) (ha : Src w0.heap va L.length 1 (flat enR L)) (hL : RowsP w0.heap L) (hb : Src w0.heap vb ls.length 1 (flat enI ls)) : Calls Tryd.prog 39 #[.agg #[.string pr, .int .i64 ar, va], vb] w0 fun e w' => e = .returned (.bool (decide (rightB ar (tp L) ls))) ∧ Ext w0 w' := by
  have hE0 : Below w0.heap.size w0 w0 := Below.refl _ _
  have hz0 := hE0.le
  obtain ⟨a, ca, rfl, hca, hca1⟩ := ha.form
  obtain ⟨b, cb, rfl, hcb, hcb1⟩ := hb.form
  refine enter Tryd.func39 rfl 32 Tryd.ntmps39 rfl ?_
  refine seqK fun Q1 kn2 kr3 ke4 => ?_
  refine region ?_
  refine st_e (e_box (v := .agg #[.string pr, .int .i64 ar, .slice a L.length ca]) rfl ?_)
  intro w5 hA6
  have hx7 := hA6.ext
  have hs8 := hA6.size
  have hB9 : Blk w5.heap w0.heap.size [.string pr, .int .i64 ar, .slice a L.length ca] 29 := hA6.new
  have hE10 : Below w0.heap.size w0 w5 := hx7.e hE0 (Nat.le_refl _)
  have hz11 := hE10.le
  have hs12 := hx7.size
  refine st_q (v := .bool false) (x_assign rfl) ?_
  refine st_nil ?_
  refine kn2 _ _ ?_
  refine seqK fun Q13 kn14 kr15 ke16 => ?_
  refine seqK fun Q17 kn18 kr19 ke20 => ?_
  refine region ?_
  refine st_q (v := .pointer (some ⟨w0.heap.size, 1, none⟩)) (x_field (o := 0) T.fa29_1 rfl) ?_
  refine st_q (v := .int .i64 ar) (x_load1 T.na3 rfl (hB9.one 1 rfl)) ?_
  refine st_q (v := .bool (decide (ar < 0))) (x_lss rfl rfl) ?_
  refine st_if (p := ar < 0) (x_move rfl) (fun h21 => ?_) (fun h21 => ?_)
  ·
   refine st_gn 3 10 rfl rfl (by decide) rfl ?_
   refine st_gn 3 10 rfl rfl (by decide) rfl ?_
   refine st_gn 3 10 rfl rfl (by decide) rfl ?_
   refine st_q (v := .bool true) (x_pickT rfl rfl) ?_
   refine st_nil ?_
   refine kn18 _ _ ?_
   refine cndT rfl ?_
   refine seqK fun Q22 kn23 kr24 ke25 => ?_
   refine region ?_
   refine st_q (v := .bool false) (x_assign rfl) ?_
   refine st_nil ?_
   refine kn23 _ _ ?_
   refine ret ?_
   refine kr15 _ _ ?_
   refine leave1 (P := Tryd.prog) (fn := Tryd.f39) (t := 4) (v := .bool false) rfl rfl ?_
   first | exact ⟨by rw [decide_eq_false fun hh => absurd (hh.1.1 _ (el_tp_mem (i := i) (by omega))) (by assumption)], hE10⟩ | exact ⟨by rw [decide_eq_false fun hh => absurd hh.1.2 (by omega)], hE10⟩
  ·
   refine st_gq 3 10 rfl rfl (by decide) ?_
   refine st_q (v := .pointer (some ⟨w0.heap.size, 1, none⟩)) (x_field (o := 0) T.fa29_1 rfl) ?_
   refine st_gq 3 10 rfl rfl (by decide) ?_
   refine st_q (v := .int .i64 ar) (x_load1 T.na3 rfl (hB9.one 1 rfl)) ?_
   refine st_gq 3 10 rfl rfl (by decide) ?_
   refine st_q (v := .bool (decide (16 < ar))) (x_gtr rfl rfl) ?_
   refine st_q (v := .bool (decide (16 < ar))) (x_pickF rfl rfl) ?_
   refine st_nil ?_
   refine kn18 _ _ ?_
   refine cnd (p := 16 < ar) rfl (fun h26 => ?_) (fun h26 => ?_)
   ·
    refine seqK fun Q27 kn28 kr29 ke30 => ?_
    refine region ?_
    refine st_q (v := .bool false) (x_assign rfl) ?_
    refine st_nil ?_
    refine kn28 _ _ ?_
    refine ret ?_
    refine kr15 _ _ ?_
    refine leave1 (P := Tryd.prog) (fn := Tryd.f39) (t := 4) (v := .bool false) rfl rfl ?_
    first | exact ⟨by rw [decide_eq_false fun hh => absurd (hh.1.1 _ (el_tp_mem (i := i) (by omega))) (by assumption)], hE10⟩ | exact ⟨by rw [decide_eq_false fun hh => absurd hh.1.2 (by omega)], hE10⟩
   ·
    refine skip ?_
    refine kn14 _ _ ?_
    refine seqK fun Q31 kn32 kr33 ke34 => ?_
    refine seqK fun Q35 kn36 kr37 ke38 => ?_
    refine region ?_
    refine st_q (v := .pointer (some ⟨w0.heap.size, 2, none⟩)) (x_field (o := 0) T.fa29_2 rfl) ?_
    refine st_q (v := .slice a L.length ca) (x_load1 T.na27 rfl (hB9.one 2 rfl)) ?_
    refine st_q (v := .int .i64 ((L.length : Nat) : Int)) (x_lenSl rfl Tryd.underlying27 rfl) ?_
    refine st_q (v := .int .i64 ((0 : Nat) : Int)) (x_move rfl) ?_
    refine st_nil ?_
    refine kn36 _ _ ?_
    refine blockK fun Q39 kn40 kr41 kx42 kb43 => ?_
    refine loopK (α := Nat) (fun x => [(1, .slice b ls.length cb), (2, .pointer (some ⟨w0.heap.size, 0, none⟩)), (16, .slice a L.length ca), (17, .int .i64 ((L.length : Nat) : Int)), (18, .int .i64 ((x : Nat) : Int))]) (fun x w44 => Ext w5 w44 ∧ x ≤ L.length ∧ ∀ j, j < x → ((el L j).2.length : Int) = ar) (fun x => L.length - x) (0) ⟨rfl, rfl, rfl, rfl, rfl, trivial⟩ ?_ ?_
    ·
     refine ⟨Below.refl _ _, ?_⟩
     try dsimp only
     exact ⟨Nat.zero_le _, fun j h => by omega⟩
    ·
     rintro τ45 i w46 ⟨hx47, ⟨hi, hI⟩⟩
     try dsimp only at hi hI
     have hB48 := hB9.ext hx47
     have hE49 : Below w0.heap.size w0 w46 := hx47.e hE10 (Nat.le_refl _)
     have hz50 := hE49.le
     have hs51 := hx47.size
     intro Q52 kn53 kr54 ke55
     refine seqK fun Q56 kn57 kr58 ke59 => ?_
     refine region ?_
     refine st_q (v := .bool (decide (i < L.length))) (x_lssN rfl rfl) ?_
     refine st_nil ?_
     refine kn57 _ _ ?_
     refine seqK fun Q60 kn61 kr62 ke63 => ?_
     refine cnd (p := i < L.length) rfl (fun h64 => ?_) (fun h64 => ?_)
     ·
      refine skip ?_
      refine kn61 _ _ ?_
      refine seqK fun Q65 kn66 kr67 ke68 => ?_
      refine blockK fun Q69 kn70 kr71 kx72 kb73 => ?_
      refine seqK fun Q74 kn75 kr76 ke77 => ?_
      refine region ?_
      obtain ⟨b78, o79, ha80, hc81⟩ := ha.at (by omega)
      refine st_q (v := .pointer (some ⟨b78, o79 + i * 1, none⟩)) (x_index' T.sl27 rfl ha80 rfl (by omega)) ?_
      have hs82 := RowsP.at (hL) (i := i) (by omega)
      have hq83 := hs82.capl
      refine st_q (v := .slice ((el L i).1.1) ((el L i).2.length) ((el L i).1.2)) (x_load1 T.na42 rfl ((hc81.below hE49).elem enR_len (i := i) (by omega))) ?_
      refine st_q (v := .slice ((el L i).1.1) ((el L i).2.length) ((el L i).1.2)) (x_assign rfl) ?_
      refine st_nil ?_
      refine kn75 _ _ ?_
      refine seqK fun Q84 kn85 kr86 ke87 => ?_
      refine region ?_
      refine st_q (v := .slice ((el L i).1.1) ((el L i).2.length) ((el L i).1.2)) (x_move rfl) ?_
      refine st_q (v := .int .i64 (((el L i).2.length : Nat) : Int)) (x_lenSl rfl Tryd.underlying42 rfl) ?_
      refine st_q (v := .pointer (some ⟨w0.heap.size, 1, none⟩)) (x_field (o := 0) T.fa29_1 rfl) ?_
      refine st_q (v := .int .i64 ar) (x_load1 T.na3 rfl (hB48.one 1 rfl)) ?_
      refine st_q (v := .bool (decide (((((el L i).2.length : Nat) : Int)) ≠ ar))) (x_neq rfl rfl) ?_
      refine st_nil ?_
      refine kn85 _ _ ?_
      refine cnd (p := ((((el L i).2.length : Nat) : Int)) ≠ ar) rfl (fun h88 => ?_) (fun h88 => ?_)
      ·
       refine seqK fun Q89 kn90 kr91 ke92 => ?_
       refine region ?_
       refine st_q (v := .bool false) (x_assign rfl) ?_
       refine st_nil ?_
       refine kn90 _ _ ?_
       refine ret ?_
       refine kr71 _ _ ?_
       refine kr67 _ _ ?_
       refine kr54 _ _ ?_
       refine kr41 _ _ ?_
       refine kr33 _ _ ?_
       refine leave1 (P := Tryd.prog) (fn := Tryd.f39) (t := 4) (v := .bool false) rfl rfl ?_
       first | exact ⟨by rw [decide_eq_false fun hh => absurd (hh.1.1 _ (el_tp_mem (i := i) (by omega))) (by assumption)], hE49⟩ | exact ⟨by rw [decide_eq_false fun hh => absurd hh.1.2 (by omega)], hE49⟩
      ·
       refine skip ?_
       refine kn70 _ _ ?_
       refine kn66 _ _ ?_
       refine region ?_
       refine st_q (v := .int .i64 (((i + 1) : Nat) : Int)) (x_addN rfl rfl (by omega)) ?_
       refine st_q (v := .int .i64 (((i + 1) : Nat) : Int)) (x_move rfl) ?_
       refine st_nil ?_
       refine kn53 _ ((i + 1)) _ ⟨rfl, rfl, rfl, rfl, rfl, trivial⟩ ⟨hx47, ?_⟩ ?_
       ·
        try dsimp only
        exact ⟨by omega, fun j h => by
          by_cases he : j = i
          · subst he; omega
          · exact hI j (by omega)⟩
       ·
        (try dsimp only); omega
     ·
      refine exit ?_
      refine ke63 _ _ _ ?_
      refine ke55 _ _ _ ?_
      refine kb43 _ _ ?_
      refine kn32 _ _ ?_
      refine seqK fun Q93 kn94 kr95 ke96 => ?_
      refine region ?_
      refine st_q (v := .slice b ls.length cb) (x_move rfl) ?_
      refine st_q (v := .func (.func 58) #[] #[.pointer (some ⟨w0.heap.size, 0, none⟩)]) (x_mkFunc (fun _ => by kernel_rfl)) ?_
      refine st_c (t_call [.slice b ls.length cb, .func (.func 58) #[] #[.pointer (some ⟨w0.heap.size, 0, none⟩)]] T.cf57 rfl rfl) (contains57 w0.heap.size pr ar _ ls _ _ hB48 (hb.below hE49)) ?_
      rintro _ w97 ⟨rfl, hx98⟩
      refine ⟨_, rfl, ?_⟩
      have hB99 := hB48.ext hx98
      have hF100 := hx98.e hx47 (Nat.le_refl _)
      have hE101 : Below w0.heap.size w0 w97 := hx98.e hE49 (Nat.le_refl _)
      have hz102 := hE101.le
      have hs103 := hx98.size
      refine st_q (v := .bool (decide (¬ (∃ i, i < ls.length ∧ badC ar (el ls i) = true)))) (x_notP rfl) ?_
      refine st_q (v := .bool (decide (¬ (∃ i, i < ls.length ∧ badC ar (el ls i) = true)))) (x_assign rfl) ?_
      refine st_nil ?_
      refine kn94 _ _ ?_
      refine ret ?_
      refine leave1 (P := Tryd.prog) (fn := Tryd.f39) (t := 4) (v := .bool (decide (¬ (∃ i, i < ls.length ∧ badC ar (el ls i) = true)))) rfl rfl ?_
      exact ⟨by rw [show decide (¬ ∃ i, i < ls.length ∧ badC ar (el ls i) = true) = decide (rightB ar (tp L) ls) from decide_eq_decide.2 ⟨fun hh => ⟨⟨tp_all fun i hi => hI i (by omega), by omega, by omega⟩, colsIn_iff.2 hh⟩, fun hh => colsIn_iff.1 hh.2⟩], hE101⟩

set_option maxHeartbeats 4000000 in
theorem cut36 (xs : Tup) (ls : List Int) (va vb : Value) (w0 : World) (ha : Src w0.heap va xs.length 1 (flat enS xs)) (hb : Src w0.heap vb ls.length 1 (flat enI ls)) (hc : ∀ i, i < ls.length → 0 ≤ el ls i ∧ el ls i < xs.length) (hn : ls.length ≤ 1048576) : Calls Tryd.prog 36 #[va, vb] w0 fun e w' => ∃ v, e = .returned v ∧ Ext w0 w' ∧ Own w'.heap w0.heap.size 9 1 v ls.length (flat enS (cutL xs ls)) := by
  have hE0 : Below w0.heap.size w0 w0 := Below.refl _ _
  have hz0 := hE0.le
  obtain ⟨a, ca, rfl, hca, hca1⟩ := ha.form
  obtain ⟨b, cb, rfl, hcb, hcb1⟩ := hb.form
  refine enter Tryd.func36 rfl 24 Tryd.ntmps36 rfl ?_
  refine seqK fun Q1 kn2 kr3 ke4 => ?_
  refine region ?_
  refine st_q (v := .slice none 0 0) (x_assign rfl) ?_
  refine st_nil ?_
  refine kn2 _ _ ?_
  refine seqK fun Q5 kn6 kr7 ke8 => ?_
  refine region ?_
  refine st_q (v := .slice none 0 0) (x_assign rfl) ?_
  refine st_nil ?_
  refine kn6 _ _ ?_
  refine seqK fun Q9 kn10 kr11 ke12 => ?_
  refine seqK fun Q13 kn14 kr15 ke16 => ?_
  refine region ?_
  refine st_q (v := .int .i64 ((0 : Nat) : Int)) (x_assign rfl) ?_
  refine st_nil ?_
  refine kn14 _ _ ?_
  refine blockK fun Q17 kn18 kr19 kx20 kb21 => ?_
  refine loopK (α := Nat × Value) (fun x => [(0, .slice a xs.length ca), (1, .slice b ls.length cb), (5, x.2), (6, .int .i64 ((x.1 : Nat) : Int))]) (fun x w22 => Below w0.heap.size w0 w22 ∧ x.1 ≤ ls.length ∧ Own w22.heap w0.heap.size 9 1 x.2 x.1 (flat enS (cutL xs (ls.take x.1)))) (fun x => ls.length - x.1) (0, .slice none 0 0) ⟨rfl, rfl, rfl, rfl, trivial⟩ ?_ ?_
  ·
   refine ⟨hE0, ?_⟩
   try dsimp only
   exact ⟨Nat.zero_le _, Own.nil _ _ _ _⟩
  ·
   rintro τ23 ⟨i, v⟩ w24 ⟨hx25, ⟨hi, hO⟩⟩
   try dsimp only at hi hO
   have hz26 := hx25.le
   intro Q27 kn28 kr29 ke30
   obtain ⟨a31, c32, rfl, hm33, hm34⟩ := hO.src.form
   refine seqK fun Q35 kn36 kr37 ke38 => ?_
   refine seqK fun Q39 kn40 kr41 ke42 => ?_
   refine region ?_
   refine st_q (v := .int .i64 ((i : Nat) : Int)) (x_move rfl) ?_
   refine st_q (v := .slice b ls.length cb) (x_move rfl) ?_
   refine st_q (v := .int .i64 ((ls.length : Nat) : Int)) (x_lenSl rfl Tryd.underlying30 rfl) ?_
   refine st_q (v := .bool (decide (i < ls.length))) (x_lssN rfl rfl) ?_
   refine st_nil ?_
   refine kn40 _ _ ?_
   refine cnd (p := i < ls.length) rfl (fun h43 => ?_) (fun h43 => ?_)
   ·
    refine skip ?_
    refine kn36 _ _ ?_
    refine seqK fun Q44 kn45 kr46 ke47 => ?_
    refine blockK fun Q48 kn49 kr50 kx51 kb52 => ?_
    refine region ?_
    refine st_q (v := .slice a31 i c32) (x_move rfl) ?_
    refine st_q (v := .slice a xs.length ca) (x_move rfl) ?_
    refine st_q (v := .slice b ls.length cb) (x_move rfl) ?_
    refine st_q (v := .int .i64 ((i : Nat) : Int)) (x_move rfl) ?_
    obtain ⟨b53, o54, ha55, hc56⟩ := hb.at (by omega)
    refine st_q (v := .pointer (some ⟨b53, o54 + i * 1, none⟩)) (x_index' T.sl30 rfl ha55 rfl (by omega)) ?_
    refine st_q (v := .int .i64 ((el ls i))) (x_load1 T.na3 rfl ((hc56.below hx25).elem enI_len (i := i) (by omega))) ?_
    obtain ⟨k, hk⟩ : ∃ k : Nat, el ls i = ((k : Nat) : Int) := ⟨(el ls i).toNat, by have := hc i (by omega); omega⟩
    have hkr := hc i (by omega)
    obtain ⟨b57, o58, ha59, hc60⟩ := ha.at (by omega)
    refine st_q (v := .pointer (some ⟨b57, o58 + k * 1, none⟩)) (x_index' T.sl42 rfl ha59 (Eq.trans rfl (congrArg (Value.int .i64) hk)) (by omega)) ?_
    refine st_q (v := .string (el xs k)) (x_load1 T.na9 rfl ((hc60.below hx25).elem enS_len (i := k) (by omega))) ?_
    refine st_e (e_buildSlice (cs := [.string (el xs k)]) (e := 9) (fun _ => by kernel_rfl) ?_)
    intro w61 hA62
    have hx63 := hA62.ext
    have hs64 := hA62.size
    have hB65 : Blk w61.heap w24.heap.size [.string (el xs k)] 9 := hA62.new
    have hF66 := hO.ext hx63
    have hE67 : Below w0.heap.size w0 w61 := hx63.e hx25 (Nat.le_refl _)
    have hz68 := hE67.le
    have hs69 := hx63.size
    refine st_e (e_appendX T.sl42 rfl rfl hF66 (hB65.src1 (k := 1) (m := 1) rfl (by omega)) (ones (by rfl)) (by omega) (by decide) (by omega) ?_)
    intro v70 w71 hO72 hG73 hN74 hW75
    have hE76 : Below w0.heap.size w0 w71 := grown_below hG73 hE67 (Nat.le_refl _) (fun b hb => (by have := (hF66.lt hb).1; clear hb; omega))
    have hz77 := hE76.le
    have hs78 := hG73.size
    have hO79 := Own.snoc (enc := enS) (u := el xs k) hO72
    obtain ⟨a80, c81, rfl, hm82, hm83⟩ := hO79.src.form
    refine st_q (v := .slice a80 ((i + 1)) c81) (x_assign rfl) ?_
    refine st_nil ?_
    refine kn49 _ _ ?_
    refine kn45 _ _ ?_
    refine region ?_
    refine st_q (v := .int .i64 ((i : Nat) : Int)) (x_move rfl) ?_
    refine st_q (v := .int .i64 (((i + 1) : Nat) : Int)) (x_addN rfl rfl (by omega)) ?_
    refine st_q (v := .int .i64 (((i + 1) : Nat) : Int)) (x_assign rfl) ?_
    refine st_nil ?_
    refine kn28 _ ((i + 1), .slice a80 ((i + 1)) c81) _ ⟨rfl, rfl, rfl, rfl, trivial⟩ ⟨hE76, ?_⟩ ?_
    ·
     try dsimp only
     refine ⟨by omega, ?_⟩
     rw [take_succ_el (by omega), cutL_snoc, hk]
     exact hO79
    ·
     (try dsimp only); omega
   ·
    refine exit ?_
    refine ke38 _ _ _ ?_
    refine ke30 _ _ _ ?_
    refine kb21 _ _ ?_
    refine kn10 _ _ ?_
    refine seqK fun Q84 kn85 kr86 ke87 => ?_
    refine region ?_
    refine st_q (v := .slice a31 i c32) (x_move rfl) ?_
    refine st_q (v := .slice a31 i c32) (x_assign rfl) ?_
    refine st_nil ?_
    refine kn85 _ _ ?_
    refine ret ?_
    refine leave1 (P := Tryd.prog) (fn := Tryd.f36) (t := 4) (v := .slice a31 i c32) rfl rfl ?_
    obtain rfl : i = ls.length := by omega
    rw [List.take_length] at hO
    exact ⟨_, rfl, hx25, hO⟩

end Go.Proofs.YtegpcbckiehleaaDoor
