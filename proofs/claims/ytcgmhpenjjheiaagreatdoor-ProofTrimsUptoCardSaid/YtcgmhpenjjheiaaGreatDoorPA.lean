/- A part of the engine: steps over the model. Over any program. -/
import Derived.Test.YtcgmhpenjjheiaaGreatDoorPT
import Derived.Test.YtcgmhpenjjheiaaGreatDoorV3
import Derived.Test.YtcgmhpenjjheiaaGreatDoorProg
namespace Go.Proofs.YtcgmhpenjjheiaaGreatDoor
open Go.RowKit Go.Eng Go.PT
theorem T.sl56 : SL Tryz.prog 56 9 1 16 (.string ByteArray.empty) := sl_mk Tryz.underlying56 (by kernel_rfl) rfl (by decide)
theorem T.cf38 : CF Tryz.prog 38 := fun _ _ => by kernel_rfl
abbrev mkR : ByteArray := (ByteArray.mk #[0, 114, 111, 111, 109])
theorem copy38 (xs : List ByteArray) (a : Option Addr) (m c : Nat) (w0 : World) (ha : Srm eS w0.heap a m c xs) (hm : m ≤ 1099511627776) :
    Calls Tryz.prog 38 #[.slice a m c] w0 fun e w' => ∃ a' c', e = .returned (.slice a' m c') ∧ Hp No w0 w' [cQ 9 eS a' m c' xs] := by
  refine enter Tryz.func38 rfl 6 Tryz.ntmps38 rfl <| ?_
  refine sr fun Q1 k2 => qt asg <| nl <| k2 _ _ <| ?_
  refine sr fun Q3 k4 => ?_
  refine st_e <| Ebs (cs := []) (e := 9) (Hp.start No w0) (fun _ => by kernel_rfl) fun b5 w6 H7 x8 => qt mv <| ?_
  exact st_e <| EapQ (H7.noneQ 9 eS (some ⟨b5, 0, none⟩)) 0 T.sl56 rfl rfl rfl (ha.e (H7.noneQ 9 eS (some ⟨b5, 0, none⟩))) (by omega) rfl rfl fun a9 c10 w11 H12 => qt asg <| nl <| k4 _ _ <| ret <| leave1 (P := Tryz.prog) (fn := Tryz.f38) (t := 2) (v := .slice a9 (0 + m) c10) rfl rfl <| ⟨_, _, by rw [Nat.zero_add], by rw [← Nat.zero_add m, ← List.nil_append xs]; exact (H12.sub (.cons_cons _ (.cons _ .slnil)))⟩
theorem clone18 (xs : List ByteArray) (a : Option Addr) (m c : Nat) (w0 : World) (ha : Srm eS w0.heap a m c xs) (hm : m ≤ 1099511627776) :
    Calls Tryz.prog 18 #[.slice a m c] w0 fun e w' => ∃ a' c', e = .returned (.slice a' m c') ∧ Hp No w0 w' [cQ 9 eS a' m c' xs] := by
  refine enter Tryz.func18 rfl 8 Tryz.ntmps18 rfl <| ?_
  refine sr fun Q1 k2 => qt asg <| nl <| k2 _ _ <| seqK fun Q3 kn4 kr5 ke6 => ?_
  refine sr fun Q7 k8 => qt mv <| qt (x_eqlSnil Tryz.underlying56 rfl rfl) <| nl <| k8 _ _ <| cnd (p := a = none) rfl (fun h9 => ?_) (fun h9 => ?_)
  · refine sr fun Q10 k11 => qt asg <| nl <| k11 _ _ <| ret <| kr5 _ _ <| leave1 (P := Tryz.prog) (fn := Tryz.f18) (t := 2) (v := .slice none 0 0) rfl rfl <| ?_
    have e0 : m = 0 := by
      rcases Nat.eq_zero_or_pos m with h | h
      · exact h
      · have := ha.addr h; rw [h9] at this; cases this
    obtain rfl : xs = [] := List.eq_nil_of_length_eq_zero (by rw [ha.len]; exact e0)
    subst e0
    exact ⟨none, 0, rfl, (Hp.start No w0).nilQ 9 eS⟩
  · refine skip <| kn4 _ _ <| ?_
    refine sr fun Q12 k13 => ?_
    refine st_e <| Ebs (cs := []) (e := 9) (Hp.start No w0) (fun _ => by kernel_rfl) fun b14 w15 H16 x17 => qt mv <| ?_
    exact st_e <| EapQ (H16.noneQ 9 eS (some ⟨b14, 0, none⟩)) 0 T.sl56 rfl rfl rfl (ha.e (H16.noneQ 9 eS (some ⟨b14, 0, none⟩))) (by omega) rfl rfl fun a18 c19 w20 H21 => qt asg <| nl <| k13 _ _ <| ret <| leave1 (P := Tryz.prog) (fn := Tryz.f18) (t := 2) (v := .slice a18 (0 + m) c19) rfl rfl <| ⟨_, _, by rw [Nat.zero_add], by rw [← Nat.zero_add m, ← List.nil_append xs]; exact (H21.sub (.cons_cons _ (.cons _ .slnil)))⟩
theorem lend17 (xs : List ByteArray) (a : Option Addr) (m c : Nat) (w0 : World) (ha : Srm eS w0.heap a m c xs) (hm : m ≤ 1099511627776) :
    Calls Tryz.prog 17 #[.slice a m c] w0 fun e w' => ∃ a' c', e = .returned (.slice a' m c') ∧ Hp No w0 w' [cQ 9 eS a' (m + 3) c' (xs ++ [mkR, mkR, mkR])] := by
  refine enter Tryz.func17 rfl 18 Tryz.ntmps17 rfl <| ?_
  refine sr fun Q1 k2 => qt asg <| nl <| k2 _ _ <| ?_
  refine sr fun Q3 k4 => qt mv <| ?_
  refine cl T.cf38 (copy38 xs _ _ _ _ ha hm) rfl fun _ w8 ⟨a6, c7, er, K5⟩ => ⟨_, er, ?_⟩
  have H9 := (Hp.start No w0).app' K5
  refine qt asg <| nl <| k4 _ _ <| seqK fun Q10 kn11 kr12 ke13 => ?_
  refine sr fun Q14 k15 => qt asg <| nl <| k15 _ _ <| blockK fun Q16 kn17 kr18 kx19 kb20 => ?_
  refine loopK (α := Nat × (Option Addr) × Nat) (fun x => [(0, .slice a m c), (3, .slice x.2.1 (m + x.1) x.2.2), (4, .int .i64 ((x.1 : Nat) : Int))]) (fun x w21 => Hp No w0 w21 [cQ 9 eS x.2.1 (m + x.1) x.2.2 (xs ++ List.replicate x.1 mkR)] ∧ x.1 ≤ 3) (fun x => 3 - x.1) (0, a6, c7) ⟨rfl, rfl, rfl, trivial⟩ ?_ ?_
  · refine ⟨(by rw [List.replicate_zero, List.append_nil]; exact H9), ?_⟩
    try dsimp only
    exact Nat.zero_le _
  · rintro τ22 ⟨i, a2, c2⟩ w23 ⟨hx24, hi⟩
    try dsimp only at hi
    have hz25 := hx24.le
    intro Q26 kn27 kr28 ke29
    dsimp only at hx24 ⊢
    refine seqK fun Q30 kn31 kr32 ke33 => ?_
    refine sr fun Q34 k35 => qt mv <| qt (x_lssN (b := 3) rfl rfl) <| nl <| k35 _ _ <| cnd (p := i < 3) rfl (fun h36 => ?_) (fun h36 => ?_)
    · refine skip <| kn31 _ _ <| seqK fun Q37 kn38 kr39 ke40 => blockK fun Q41 kn42 kr43 kx44 kb45 => region <| qt mv <| ?_
      refine st_e <| Ebs (cs := [.string (ByteArray.mk #[0, 114, 111, 111, 109])]) (e := 9) hx24 (fun _ => by kernel_rfl) fun b46 w47 H48 x49 => ?_
      refine st_e <| EapQ H48 1 T.sl56 rfl rfl rfl (H48.lst (E := eS) 0 rfl mkR rfl) (by omega) rfl rfl fun a50 c51 w52 H53 => qt asg <| nl <| kn42 _ _ <| kn38 _ _ <| region <| qt mv <| qt (addN (b := 1) rfl rfl) <| qt asg <| nl <| kn27 _ ((i + 1), a50, c51) _ ⟨rfl, rfl, rfl, trivial⟩ ⟨(by rw [List.replicate_succ', ← List.append_assoc, ← Nat.add_assoc]; exact (H53.sub (.cons _ (.cons_cons _ .slnil)))), ?_⟩ ?_
      · try dsimp only
        exact (by omega)
      · (try dsimp only); omega
    · refine exit <| ke33 _ _ _ <| ke29 _ _ _ <| kb20 _ _ <| kn11 _ _ <| ?_
      refine sr fun Q54 k55 => qt mv <| qt mv <| qt (x_lenSl rfl Tryz.underlying56 rfl) <| qt (x_sliceHi T.sl56 rfl rfl (by have := (hx24.srQ 0 rfl).cap; omega)) <| qt asg <| nl <| k55 _ _ <| ret <| leave1 (P := Tryz.prog) (fn := Tryz.f17) (t := 2) (v := .slice a2 m c2) rfl rfl <| ?_
      obtain rfl : i = 3 := by omega
      exact ⟨_, _, rfl, by simpa only [List.replicate] using hx24⟩
end Go.Proofs.YtcgmhpenjjheiaaGreatDoor
namespace Go.Proofs.YtcgmhpenjjheiaaGreatDoor
open Go.RowKit Go.Eng Go.PT
theorem T.na9 : NA Tryz.prog 9 := fun _ => by kernel_rfl
theorem T.cf39 : CF Tryz.prog 39 := fun _ _ => by kernel_rfl
theorem bl_irr (x : List UInt8) : Op.bytesLess x x = false := by
  induction x with
  | nil => rfl
  | cons a x ih => simp [Op.bytesLess, ih]
theorem texts40 (xs : List ByteArray) (a b : Option Addr) (m c d : Nat) (w0 : World) (ha : Srm eS w0.heap a m c xs) (hb : Srm eS w0.heap b m d xs) :
    Calls Tryz.prog 40 #[.slice a m c, .slice b m d] w0 fun e w' => e = .returned (.bool true) ∧ Ext w0 w' := by
  have hc := ha.cap
  have hl := ha.len
  refine enter Tryz.func40 rfl 26 Tryz.ntmps40 rfl <| ?_
  refine sr fun Q1 k2 => qt asg <| nl <| k2 _ _ <| seqK fun Q3 kn4 kr5 ke6 => ?_
  refine sr fun Q7 k8 => qt mv <| qt (x_lenSl rfl Tryz.underlying56 rfl) <| qt mv <| qt (x_lenSl rfl Tryz.underlying56 rfl) <| qt (x_neqN rfl rfl) <| nl <| k8 _ _ <| cndN (p := m ≠ m) rfl (fun h => h rfl) <| skip <| kn4 _ _ <| seqK fun Q9 kn10 kr11 ke12 => ?_
  refine sr fun Q13 k14 => qt asg <| nl <| k14 _ _ <| blockK fun Q15 kn16 kr17 kx18 kb19 => ?_
  refine loopK (α := Nat) (fun x => [(0, .slice a m c), (1, .slice b m d), (5, .int .i64 ((x : Nat) : Int))]) (fun x w20 => Hp No w0 w20 [] ∧ x ≤ m) (fun x => m - x) (0) ⟨rfl, rfl, rfl, trivial⟩ ?_ ?_
  · refine ⟨(Hp.start No w0), ?_⟩
    try dsimp only
    exact Nat.zero_le _
  · rintro τ21 i w22 ⟨hx23, hi⟩
    try dsimp only at hi
    have hz24 := hx23.le
    intro Q25 kn26 kr27 ke28
    refine seqK fun Q29 kn30 kr31 ke32 => ?_
    refine sr fun Q33 k34 => qt mv <| qt mv <| qt (x_lenSl rfl Tryz.underlying56 rfl) <| qt (x_lssN rfl rfl) <| nl <| k34 _ _ <| cnd (p := i < m) rfl (fun h35 => ?_) (fun h35 => ?_)
    · refine skip <| kn30 _ _ <| seqK fun Q36 kn37 kr38 ke39 => blockK fun Q40 kn41 kr42 kx43 kb44 => seqK fun Q45 kn46 kr47 ke48 => regionD1 [3, 7] [0, 1, 2, 3, 4, 5, 6, 7, 8] (.one 0 (.one 1 (.one 2 (.one 3 (.one 4 (.one 5 (.one 6 (.one 7 (.one 8 .done))))))))) (by kernel_rfl) (by kernel_rfl) fun w49 x50 s51 => ?_
      have H52 := hx23.ext x50
      have S53 : Ext w49 w49 := Below.refl _ _
      refine d_q rfl rfl (fun _ => mv) <| d_q rfl rfl (fun _ => mv) <| d_q rfl rfl (fun _ => x_index' T.sl56 rfl ((ha.e H52).addr (by omega)) rfl (by omega)) <| d_l rfl rfl rfl (fun _ y54 => x_load1 T.na9 rfl (((ha.e H52).cell (i := i) (by omega)).ext y54)) <| d_q rfl rfl (fun _ => mv) <| d_q rfl rfl (fun _ => mv) <| d_q rfl rfl (fun _ => x_index' T.sl56 rfl ((hb.e H52).addr (by omega)) rfl (by omega)) <| d_l rfl rfl rfl (fun _ y55 => x_load1 T.na9 rfl (((hb.e H52).cell (i := i) (by omega)).ext y55)) <| d_q rfl rfl (fun _ => x_neqS rfl rfl) <| d_done <| kn46 _ _ <| cndN (p := (el xs i).toList ≠ (el xs i).toList) rfl (fun h => h rfl) <| skip <| kn41 _ _ <| kn37 _ _ <| region <| qt mv <| qt (addN (b := 1) rfl rfl) <| qt asg <| nl <| kn26 _ ((i + 1)) _ ⟨rfl, rfl, rfl, trivial⟩ ⟨H52, ?_⟩ ?_
      · try dsimp only
        exact (by omega)
      · (try dsimp only); omega
    · refine exit <| ke32 _ _ _ <| ke28 _ _ _ <| kb19 _ _ <| kn10 _ _ <| ?_
      exact sr fun Q56 k57 => qt asg <| nl <| k57 _ _ <| ret <| leave1 (P := Tryz.prog) (fn := Tryz.f40) (t := 4) (v := .bool true) rfl rfl <| ⟨rfl, hx23.x⟩
theorem txt39 (s : ByteArray) (w0 : World) :
    Calls Tryz.prog 39 #[.string s, .string s] w0 fun e w' => e = .returned (.int .i64 0) ∧ w0 = w' := by
  refine enter Tryz.func39 rfl 11 Tryz.ntmps39 rfl <| ?_
  refine sr fun Q1 k2 => qt asg <| nl <| k2 _ _ <| seqK fun Q3 kn4 kr5 ke6 => ?_
  refine sr fun Q7 k8 => qt mv <| qt mv <| qt (x_lssS rfl rfl) <| nl <| k8 _ _ <| cndN (p := Op.bytesLess s.toList s.toList = true) rfl (by rw [bl_irr]; exact Bool.false_ne_true) <| skip <| kn4 _ _ <| seqK fun Q9 kn10 kr11 ke12 => ?_
  refine sr fun Q13 k14 => qt mv <| qt mv <| qt (x_gtrS rfl rfl) <| nl <| k14 _ _ <| cndN (p := (Op.bytesLess s.toList s.toList || s.toList == s.toList) = false) rfl (by simp) <| skip <| kn10 _ _ <| ?_
  exact sr fun Q15 k16 => qt asg <| nl <| k16 _ _ <| ret <| leave1 (P := Tryz.prog) (fn := Tryz.f39) (t := 4) (v := .int .i64 ((0 : Nat) : Int)) rfl rfl <| ⟨rfl, rfl⟩
theorem tuples20 (xs : List ByteArray) (a b : Option Addr) (m c d : Nat) (w0 : World) (ha : Srm eS w0.heap a m c xs) (hb : Srm eS w0.heap b m d xs) :
    Calls Tryz.prog 20 #[.slice a m c, .slice b m d] w0 fun e w' => e = .returned (.int .i64 0) ∧ Ext w0 w' := by
  have hc := ha.cap
  have hl := ha.len
  refine enter Tryz.func20 rfl 41 Tryz.ntmps20 rfl <| ?_
  refine sr fun Q1 k2 => qt asg <| nl <| k2 _ _ <| seqK fun Q3 kn4 kr5 ke6 => ?_
  refine sr fun Q7 k8 => qt asg <| nl <| k8 _ _ <| blockK fun Q9 kn10 kr11 kx12 kb13 => ?_
  refine loopK (α := Nat) (fun x => [(0, .slice a m c), (1, .slice b m d), (5, .int .i64 ((x : Nat) : Int))]) (fun x w14 => Hp No w0 w14 [] ∧ x ≤ m) (fun x => m - x) (0) ⟨rfl, rfl, rfl, trivial⟩ ?_ ?_
  · refine ⟨(Hp.start No w0), ?_⟩
    try dsimp only
    exact Nat.zero_le _
  · rintro τ15 i w16 ⟨hx17, hi⟩
    try dsimp only at hi
    have hz18 := hx17.le
    intro Q19 kn20 kr21 ke22
    refine seqK fun Q23 kn24 kr25 ke26 => ?_
    refine sr fun Q27 k28 => qt mv <| qt mv <| qt (x_lenSl rfl Tryz.underlying56 rfl) <| qt (x_lssN rfl rfl) <| st_if (p := i < m) (x_move rfl) (fun h29 => ?_) (fun h29 => ?_)
    · refine st_gq 4 11 rfl rfl (by decide) <| qt mv <| st_gq 4 11 rfl rfl (by decide) <| qt mv <| st_gq 4 11 rfl rfl (by decide) <| qt (x_lenSl rfl Tryz.underlying56 rfl) <| st_gq 4 11 rfl rfl (by decide) <| qt (x_lssN rfl rfl) <| qt (pkT rfl) <| nl <| k28 _ _ <| cnd (p := i < m) rfl (fun h30 => ?_) (fun h30 => ?_)
      · refine skip <| kn24 _ _ <| seqK fun Q31 kn32 kr33 ke34 => blockK fun Q35 kn36 kr37 kx38 kb39 => seqK fun Q40 kn41 kr42 ke43 => regionD1 [3, 7] [0, 1, 2, 3, 4, 5, 6, 7, 9] (.one 0 (.one 1 (.one 2 (.one 3 (.one 4 (.one 5 (.one 6 (.one 7 (.one 8 (.one 9 .done)))))))))) (by kernel_rfl) (by kernel_rfl) fun w44 x45 s46 => ?_
        have H47 := hx17.ext x45
        have S48 : Ext w44 w44 := Below.refl _ _
        refine d_q rfl rfl (fun _ => mv) <| d_q rfl rfl (fun _ => mv) <| d_q rfl rfl (fun _ => x_index' T.sl56 rfl ((ha.e H47).addr (by omega)) rfl (by omega)) <| d_l rfl rfl rfl (fun _ y49 => x_load1 T.na9 rfl (((ha.e H47).cell (i := i) (by omega)).ext y49)) <| d_q rfl rfl (fun _ => mv) <| d_q rfl rfl (fun _ => mv) <| d_q rfl rfl (fun _ => x_index' T.sl56 rfl ((hb.e H47).addr (by omega)) rfl (by omega)) <| d_l rfl rfl rfl (fun _ y50 => x_load1 T.na9 rfl (((hb.e H47).cell (i := i) (by omega)).ext y50)) <| d_e (by decide) <| d_c' rfl rfl (t_call _ T.cf39 rfl rfl) (txt39 _ _) fun _ _ ⟨er, rfl⟩ => ⟨_, er, ?_⟩
        refine ⟨fun _ => S48, ?_⟩
        refine d_q rfl rfl (fun _ => asg) <| d_done <| kn41 _ _ <| ?_
        refine sr fun Q52 k53 => qt mv <| qt (x_neqN (b := 0) rfl rfl) <| nl <| k53 _ _ <| cndN (p := 0 ≠ 0) rfl (fun h => h rfl) <| skip <| kn36 _ _ <| kn32 _ _ <| region <| qt mv <| qt (addN (b := 1) rfl rfl) <| qt asg <| nl <| kn20 _ ((i + 1)) _ ⟨rfl, rfl, rfl, trivial⟩ ⟨H47, ?_⟩ ?_
        · try dsimp only
          exact (by omega)
        · (try dsimp only); omega
      · refine exit <| ke26 _ _ _ <| ke22 _ _ _ <| kb13 _ _ <| kn4 _ _ <| seqK fun Q54 kn55 kr56 ke57 => ?_
        refine sr fun Q58 k59 => qt mv <| qt (x_lenSl rfl Tryz.underlying56 rfl) <| qt mv <| qt (x_lenSl rfl Tryz.underlying56 rfl) <| qt (x_lssN rfl rfl) <| nl <| k59 _ _ <| cndN (p := m < m) rfl (Nat.lt_irrefl _) <| skip <| kn55 _ _ <| seqK fun Q60 kn61 kr62 ke63 => ?_
        refine sr fun Q64 k65 => qt mv <| qt (x_lenSl rfl Tryz.underlying56 rfl) <| qt mv <| qt (x_lenSl rfl Tryz.underlying56 rfl) <| qt (x_gtrN rfl rfl) <| nl <| k65 _ _ <| cndN (p := m < m) rfl (Nat.lt_irrefl _) <| skip <| kn61 _ _ <| ?_
        exact sr fun Q66 k67 => qt asg <| nl <| k67 _ _ <| ret <| leave1 (P := Tryz.prog) (fn := Tryz.f20) (t := 4) (v := .int .i64 ((0 : Nat) : Int)) rfl rfl <| ⟨rfl, hx17.x⟩
    · refine st_gn 4 11 rfl rfl (by decide) rfl <| st_gn 4 11 rfl rfl (by decide) rfl <| st_gn 4 11 rfl rfl (by decide) rfl <| st_gn 4 11 rfl rfl (by decide) rfl <| qt (pkF rfl) <| nl <| k28 _ _ <| cndF rfl <| exit <| ke26 _ _ _ <| ke22 _ _ _ <| kb13 _ _ <| kn4 _ _ <| seqK fun Q68 kn69 kr70 ke71 => ?_
      refine sr fun Q72 k73 => qt mv <| qt (x_lenSl rfl Tryz.underlying56 rfl) <| qt mv <| qt (x_lenSl rfl Tryz.underlying56 rfl) <| qt (x_lssN rfl rfl) <| nl <| k73 _ _ <| cndN (p := m < m) rfl (Nat.lt_irrefl _) <| skip <| kn69 _ _ <| seqK fun Q74 kn75 kr76 ke77 => ?_
      refine sr fun Q78 k79 => qt mv <| qt (x_lenSl rfl Tryz.underlying56 rfl) <| qt mv <| qt (x_lenSl rfl Tryz.underlying56 rfl) <| qt (x_gtrN rfl rfl) <| nl <| k79 _ _ <| cndN (p := m < m) rfl (Nat.lt_irrefl _) <| skip <| kn75 _ _ <| ?_
      exact sr fun Q80 k81 => qt asg <| nl <| k81 _ _ <| ret <| leave1 (P := Tryz.prog) (fn := Tryz.f20) (t := 4) (v := .int .i64 ((0 : Nat) : Int)) rfl rfl <| ⟨rfl, hx17.x⟩
end Go.Proofs.YtcgmhpenjjheiaaGreatDoor
namespace Go.Proofs.YtcgmhpenjjheiaaGreatDoor
open Go.RowKit Go.Eng Go.PT
theorem T.fa62_0 : FA Tryz.prog 62 0 0 := fun _ _ => by kernel_rfl
theorem T.fa62_1 : FA Tryz.prog 62 1 1 := fun _ _ => by kernel_rfl
theorem T.na56 : NA Tryz.prog 56 := fun _ => by kernel_rfl
theorem T.cf20 : CF Tryz.prog 20 := fun _ _ => by kernel_rfl
theorem same19 (p : ByteArray) (xs : List ByteArray) (a b : Option Addr) (m c d : Nat) (w0 : World) (ha : Srm eS w0.heap a m c xs) (hb : Srm eS w0.heap b m d xs) :
    Calls Tryz.prog 19 #[.agg #[.string p, .slice a m c], .agg #[.string p, .slice b m d]] w0 fun e w' => e = .returned (.bool true) ∧ Ext w0 w' := by
  refine enter Tryz.func19 rfl 27 Tryz.ntmps19 rfl <| ?_
  refine sr fun Q1 k2 => ?_
  refine st_e <| Ebx (v := .agg #[.string p, .slice a m c]) (Hp.start No w0) rfl fun b3 w4 H5 x6 => ?_
  refine st_e <| Ebx (v := .agg #[.string p, .slice b m d]) H5 rfl fun b7 w8 H9 x10 => qt asg <| nl <| k2 _ _ <| ?_
  refine sr fun Q11 k12 => qt (x_field (o := 0) T.fa62_0 rfl) <| qt (x_load1 T.na9 rfl (H9.ld 1 rfl 0 rfl)) <| qt (x_field (o := 0) T.fa62_0 rfl) <| qt (x_load1 T.na9 rfl (H9.ld 0 rfl 0 rfl)) <| qt (x_eqlS rfl rfl) <| st_if (p := p.toList = p.toList) (x_move rfl) (fun h13 => ?_) (fun h13 => ?_)
  · refine st_gq 5 10 rfl rfl (by decide) <| qt (x_field (o := 0) T.fa62_1 rfl) <| st_gq 5 10 rfl rfl (by decide) <| qt (x_load1 T.na56 rfl (H9.ld 1 rfl 1 rfl)) <| st_gq 5 10 rfl rfl (by decide) <| qt (x_lenSl rfl Tryz.underlying56 rfl) <| st_gq 5 10 rfl rfl (by decide) <| qt (x_field (o := 0) T.fa62_1 rfl) <| st_gq 5 10 rfl rfl (by decide) <| qt (x_load1 T.na56 rfl (H9.ld 0 rfl 1 rfl)) <| st_gq 5 10 rfl rfl (by decide) <| qt (x_lenSl rfl Tryz.underlying56 rfl) <| st_gq 5 10 rfl rfl (by decide) <| qt (x_eqlN rfl rfl) <| qt (pkT rfl) <| st_if (p := m = m) (x_move rfl) (fun h14 => ?_) (fun h14 => ?_)
    · refine st_gq 14 19 rfl rfl (by decide) <| qt (x_field (o := 0) T.fa62_1 rfl) <| st_gq 14 19 rfl rfl (by decide) <| qt (x_load1 T.na56 rfl (H9.ld 1 rfl 1 rfl)) <| st_gq 14 19 rfl rfl (by decide) <| qt (x_field (o := 0) T.fa62_1 rfl) <| st_gq 14 19 rfl rfl (by decide) <| qt (x_load1 T.na56 rfl (H9.ld 0 rfl 1 rfl)) <| st_gq 14 19 rfl rfl (by decide) <| ?_
      refine cl T.cf20 (tuples20 _ _ _ _ _ _ _ (ha.ext H9.x) (hb.ext H9.x)) rfl fun _ w16 ⟨er, x15⟩ => ⟨_, er, ?_⟩
      have H17 := H9.ext x15
      exact st_gq 14 19 rfl rfl (by decide) <| qt (x_eqlN (b := 0) rfl rfl) <| qt (pkT rfl) <| qt asg <| nl <| k12 _ _ <| ret <| leave1 (P := Tryz.prog) (fn := Tryz.f19) (t := 4) (v := .bool (decide (0 = 0))) rfl rfl <| ⟨rfl, H17.x⟩
    · exact absurd h14 (not_not_intro rfl)
  · exact absurd h13 (not_not_intro rfl)
end Go.Proofs.YtcgmhpenjjheiaaGreatDoor
namespace Go.Proofs.YtcgmhpenjjheiaaGreatDoor
open Go.RowKit Go.Eng Go.PT
theorem T.cf40 : CF Tryz.prog 40 := fun _ _ => by kernel_rfl
theorem T.sl22 : SL Tryz.prog 22 65 5 96 (.agg #[.string ByteArray.empty, .slice none 0 0, .int .i64 ((0 : Nat) : Int), .slice none 0 0, .slice none 0 0]) := sl_mk Tryz.underlying22 (by kernel_rfl) rfl (by decide)
theorem T.fa65_0 : FA Tryz.prog 65 0 0 := fun _ _ => by kernel_rfl
theorem T.ag62 : AG Tryz.prog 62 2 := fun _ => ⟨by kernel_rfl, by kernel_rfl⟩
theorem T.cf19 : CF Tryz.prog 19 := fun _ _ => by kernel_rfl
theorem T.fa65_1 : FA Tryz.prog 65 1 2 := fun _ _ => by kernel_rfl
theorem T.na3 : NA Tryz.prog 3 := fun _ => by kernel_rfl
theorem T.fa65_2 : FA Tryz.prog 65 2 3 := fun _ _ => by kernel_rfl
theorem T.fa65_3 : FA Tryz.prog 65 3 4 := fun _ _ => by kernel_rfl
theorem T.na63 : NA Tryz.prog 63 := fun _ => by kernel_rfl
theorem T.sl63 : SL Tryz.prog 63 3 1 8 (.int .i64 ((0 : Nat) : Int)) := sl_mk Tryz.underlying63 (by kernel_rfl) rfl (by decide)
theorem el_mk3 {α : Type} [Inhabited α] {xs : List α} {u : α} {m i : Nat} (hl : xs.length = m) (hi : i < 3) : el (xs ++ [u, u, u]) (m + i) = u := by
  subst hl
  unfold el
  rw [List.getD_eq_getElem?_getD, List.getElem?_append_right (by omega), Nat.add_sub_cancel_left]
  match i, hi with
  | 0, _ => rfl
  | 1, _ => rfl
  | 2, _ => rfl
theorem kept21 (xs : List ByteArray) (a b : Option Addr) (m c d : Nat) (w0 : World) (ha : Srm eS w0.heap a (m + 3) c (xs ++ [mkR, mkR, mkR])) (hb : Srm eS w0.heap b m d xs) :
    Calls Tryz.prog 21 #[.slice a m c, .slice b m d] w0 fun e w' => e = .returned (.bool true) ∧ Ext w0 w' := by
  have hl : xs.length = m := hb.len
  have hc := ha.cap
  refine enter Tryz.func21 rfl 28 Tryz.ntmps21 rfl <| ?_
  refine sr fun Q1 k2 => qt asg <| nl <| k2 _ _ <| seqK fun Q3 kn4 kr5 ke6 => ?_
  refine sr fun Q7 k8 => qt mv <| qt mv <| ?_
  refine cl T.cf40 (texts40 xs _ _ _ _ _ _ (((ha.ext (Hp.start No w0).x)).pre hl) (hb.ext (Hp.start No w0).x)) rfl fun _ w10 ⟨er, x9⟩ => ⟨_, er, ?_⟩
  have H11 := (Hp.start No w0).ext x9
  refine qt (x_notB (b := true) rfl) <| nl <| k8 _ _ <| cndF rfl <| skip <| kn4 _ _ <| ?_
  refine sr fun Q12 k13 => qt mv <| qt mv <| qt (x_lenSl rfl Tryz.underlying56 rfl) <| qt (addN (b := 3) rfl rfl) <| qt (x_sliceHi T.sl56 rfl rfl (by omega)) <| qt asg <| nl <| k13 _ _ <| seqK fun Q14 kn15 kr16 ke17 => ?_
  refine sr fun Q18 k19 => qt asg <| nl <| k19 _ _ <| blockK fun Q20 kn21 kr22 kx23 kb24 => ?_
  refine loopK (α := Nat) (fun x => [(1, .slice b m d), (5, .slice a (m + 3) c), (6, .int .i64 ((x : Nat) : Int))]) (fun x w25 => Hp No w0 w25 [] ∧ x ≤ 3) (fun x => 3 - x) (0) ⟨rfl, rfl, rfl, trivial⟩ ?_ ?_
  · refine ⟨H11, ?_⟩
    try dsimp only
    exact Nat.zero_le _
  · rintro τ26 i w27 ⟨hx28, hi⟩
    try dsimp only at hi
    have hz29 := hx28.le
    intro Q30 kn31 kr32 ke33
    refine seqK fun Q34 kn35 kr36 ke37 => ?_
    refine sr fun Q38 k39 => qt mv <| qt (x_lssN (b := 3) rfl rfl) <| nl <| k39 _ _ <| cnd (p := i < 3) rfl (fun h40 => ?_) (fun h40 => ?_)
    · refine skip <| kn35 _ _ <| seqK fun Q41 kn42 kr43 ke44 => blockK fun Q45 kn46 kr47 kx48 kb49 => ?_
      refine sr fun Q50 k51 => qt mv <| qt mv <| qt (x_lenSl rfl Tryz.underlying56 rfl) <| qt mv <| qt (addN rfl rfl) <| qt (x_index' T.sl56 rfl ((ha.e hx28).addr (by omega)) rfl (by omega)) <| qt (x_load1 T.na9 rfl ((ha.e hx28).cell (i := (m + i)) (by omega))) <| qt (x_neqS rfl rfl) <| nl <| k51 _ _ <| cndN (p := (el (xs ++ [mkR, mkR, mkR]) (m + i)).toList ≠ (ByteArray.mk #[0, 114, 111, 111, 109]).toList) rfl (fun h => h (by rw [el_mk3 hl h40])) <| skip <| kn46 _ _ <| kn42 _ _ <| region <| qt mv <| qt (addN (b := 1) rfl rfl) <| qt asg <| nl <| kn31 _ ((i + 1)) _ ⟨rfl, rfl, rfl, trivial⟩ ⟨hx28, ?_⟩ ?_
      · try dsimp only
        exact (by omega)
      · (try dsimp only); omega
    · refine exit <| ke37 _ _ _ <| ke33 _ _ _ <| kb24 _ _ <| kn15 _ _ <| ?_
      exact sr fun Q52 k53 => qt asg <| nl <| k53 _ _ <| ret <| leave1 (P := Tryz.prog) (fn := Tryz.f21) (t := 4) (v := .bool true) rfl rfl <| ⟨rfl, hx28.x⟩
theorem same9 (xs ys : List Rw) (a b : Option Addr) (m c d : Nat) (w0 : World) (ha : Sts w0.heap a m c xs) (hb : Sts w0.heap b m d ys) (hE : ∀ i, i < m → (el xs i).1 = (el ys i).1) :
    Calls Tryz.prog 9 #[.slice a m c, .slice b m d] w0 fun e w' => e = .returned (.bool true) ∧ Ext w0 w' := by
  have hc := ha.1.cap
  have hl := ha.1.len
  refine enter Tryz.func9 rfl 114 Tryz.ntmps9 rfl <| ?_
  refine sr fun Q1 k2 => qt asg <| nl <| k2 _ _ <| seqK fun Q3 kn4 kr5 ke6 => ?_
  refine sr fun Q7 k8 => qt mv <| qt (x_lenSl rfl Tryz.underlying22 rfl) <| qt mv <| qt (x_lenSl rfl Tryz.underlying22 rfl) <| qt (x_neqN rfl rfl) <| nl <| k8 _ _ <| cndN (p := m ≠ m) rfl (fun h => h rfl) <| skip <| kn4 _ _ <| seqK fun Q9 kn10 kr11 ke12 => ?_
  refine sr fun Q13 k14 => qt asg <| nl <| k14 _ _ <| blockK fun Q15 kn16 kr17 kx18 kb19 => ?_
  refine loopK (α := Nat) (fun x => [(0, .slice a m c), (1, .slice b m d), (5, .int .i64 ((x : Nat) : Int))]) (fun x w20 => Hp No w0 w20 [] ∧ x ≤ m) (fun x => m - x) (0) ⟨rfl, rfl, rfl, trivial⟩ ?_ ?_
  · refine ⟨(Hp.start No w0), ?_⟩
    try dsimp only
    exact Nat.zero_le _
  · rintro τ21 i w22 ⟨hx23, hi⟩
    try dsimp only at hi
    have hz24 := hx23.le
    intro Q25 kn26 kr27 ke28
    refine seqK fun Q29 kn30 kr31 ke32 => ?_
    refine sr fun Q33 k34 => qt mv <| qt mv <| qt (x_lenSl rfl Tryz.underlying22 rfl) <| qt (x_lssN rfl rfl) <| nl <| k34 _ _ <| cnd (p := i < m) rfl (fun h35 => ?_) (fun h35 => ?_)
    · refine skip <| kn30 _ _ <| seqK fun Q36 kn37 kr38 ke39 => blockK fun Q40 kn41 kr42 kx43 kb44 => seqK fun Q45 kn46 kr47 ke48 => seqK fun Q49 kn50 kr51 ke52 => regionD1 [4, 9, 17, 22, 30, 36, 45, 50, 59, 65] [0, 1, 2, 3, 4, 5, 6, 7, 8, 9, 11, 12, 13, 14, 15, 16, 17, 18, 19, 20, 21, 22, 23, 24, 25, 26, 27, 28, 29, 30, 31, 32, 33, 34, 35, 36, 37, 38, 39, 40, 41, 42, 43, 44, 45, 46, 47, 48, 49, 50, 52, 53, 54, 55, 56, 57, 58, 59, 60, 61, 62, 63, 64, 65, 66, 67, 68] (.one 0 (.one 1 (.one 2 (.one 3 (.one 4 (.one 5 (.one 6 (.one 7 (.one 8 (.one 9 (.one 10 (.one 11 (.one 12 (.one 13 (.one 14 (.one 15 (.one 16 (.one 17 (.one 18 (.one 19 (.one 20 (.one 21 (.one 22 (.one 23 (.one 24 (.one 25 (.one 26 (.one 27 (.one 28 (.one 29 (.one 30 (.one 31 (.one 32 (.one 33 (.one 34 (.one 35 (.one 36 (.one 37 (.one 38 (.one 39 (.one 40 (.one 41 (.one 42 (.one 43 (.one 44 (.one 45 (.one 46 (.one 47 (.one 48 (.one 49 (.one 50 (.one 51 (.one 52 (.one 53 (.one 54 (.one 55 (.one 56 (.one 57 (.one 58 (.one 59 (.one 60 (.one 61 (.one 62 (.one 63 (.one 64 (.one 65 (.one 66 (.one 67 (.one 68 .done))))))))))))))))))))))))))))))))))))))))))))))))))))))))))))))))))))) (by kernel_rfl) (by kernel_rfl) fun w53 x54 s55 => ?_
      have H56 := hx23.ext x54
      have S57 : Ext w53 w53 := Below.refl _ _
      refine d_q rfl rfl (fun _ => mv) <| d_q rfl rfl (fun _ => mv) <| d_q rfl rfl (fun _ => x_index' T.sl22 rfl ((ha.1.ext H56.x).addr (by omega)) rfl (by omega)) <| d_q rfl rfl (fun _ => x_field (o := (ao a) + i * 5) T.fa65_0 rfl) <| d_l rfl rfl rfl (fun _ y58 => x_loadA [.string ((el xs i).1.p), .slice ((el xs i).2.ta) ((el xs i).1.t.length) ((el xs i).2.tc)] T.ag62 rfl ((((ha.1.ext H56.x).cell (i := i) (by omega)).sub 0 [.string ((el xs i).1.p), .slice ((el xs i).2.ta) ((el xs i).1.t.length) ((el xs i).2.tc)] (cells_at rfl)).ext y58)) <| d_q rfl rfl (fun _ => mv) <| d_q rfl rfl (fun _ => mv) <| d_q rfl rfl (fun _ => x_index' T.sl22 rfl (hb.1.addr (by omega)) rfl (by omega)) <| d_q rfl rfl (fun _ => x_field (o := (ao b) + i * 5) T.fa65_0 rfl) <| d_l rfl rfl rfl (fun _ y59 => x_loadA [.string ((el xs i).1.p), .slice ((el ys i).2.ta) ((el xs i).1.t.length) ((el ys i).2.tc)] T.ag62 rfl ((((hb.ext H56.x).cell2 hE (i := i) (by omega)).sub 0 [.string ((el xs i).1.p), .slice ((el ys i).2.ta) ((el xs i).1.t.length) ((el ys i).2.tc)] (cells_at rfl)).ext y59)) <| d_e (by decide) <| d_c' rfl rfl (t_call _ T.cf19 rfl rfl) (same19 _ _ _ _ _ _ _ _ ((ha.ext H56.x).2 i (by omega)).1 ((hb.ext H56.x).stq2 hE (i := i) (by omega)).1) fun _ w61 ⟨er, x60⟩ => ⟨_, er, ?_⟩
      have H62 := H56.ext x60
      have S63 := S57.trans (x60.mono S57.size)
      refine ⟨fun _ => S63, ?_⟩
      refine d_q rfl rfl (fun _ => x_notB (b := true) rfl) <| d_q rfl rfl (fun _ => mv) <| d_gq (j := 12) (t := 30) rfl rfl rfl rfl (by decide) (fun _ => mv) <| d_gq (j := 12) (t := 30) rfl rfl rfl rfl (by decide) (fun _ => mv) <| d_gq (j := 12) (t := 30) rfl rfl rfl rfl (by decide) (fun _ => x_index' T.sl22 rfl ((ha.1.ext H56.x).addr (by omega)) rfl (by omega)) <| d_gq (j := 12) (t := 30) rfl rfl rfl rfl (by decide) (fun _ => x_field (o := (ao a) + i * 5) T.fa65_1 rfl) <| d_gl (j := 12) (t := 30) rfl rfl rfl rfl rfl (by decide) (fun _ y64 => x_load1 T.na3 rfl ((((ha.1.ext H56.x).cell (i := i) (by omega)).fld 2 rfl).ext y64)) <| d_gq (j := 12) (t := 30) rfl rfl rfl rfl (by decide) (fun _ => mv) <| d_gq (j := 12) (t := 30) rfl rfl rfl rfl (by decide) (fun _ => mv) <| d_gq (j := 12) (t := 30) rfl rfl rfl rfl (by decide) (fun _ => x_index' T.sl22 rfl (hb.1.addr (by omega)) rfl (by omega)) <| d_gq (j := 12) (t := 30) rfl rfl rfl rfl (by decide) (fun _ => x_field (o := (ao b) + i * 5) T.fa65_1 rfl) <| d_gl (j := 12) (t := 30) rfl rfl rfl rfl rfl (by decide) (fun _ y65 => x_load1 T.na3 rfl ((((hb.ext H56.x).cell2 hE (i := i) (by omega)).fld 2 rfl).ext y65)) <| d_gq (j := 12) (t := 30) rfl rfl rfl rfl (by decide) (fun _ => x_neq rfl rfl) <| d_q rfl rfl (fun _ => pkF rfl) <| d_if rfl rfl (p := ((el xs i).1.r) ≠ ((el xs i).1.r)) (fun _ => mv) (fun h66 => ?_) (fun h66 => ?_)
      · exact absurd h66 (fun h => h rfl)
      · refine d_gq (j := 25) (t := 43) rfl rfl rfl rfl (by decide) (fun _ => mv) <| d_gq (j := 25) (t := 43) rfl rfl rfl rfl (by decide) (fun _ => mv) <| d_gq (j := 25) (t := 43) rfl rfl rfl rfl (by decide) (fun _ => x_index' T.sl22 rfl ((ha.1.ext H56.x).addr (by omega)) rfl (by omega)) <| d_gq (j := 25) (t := 43) rfl rfl rfl rfl (by decide) (fun _ => x_field (o := (ao a) + i * 5) T.fa65_2 rfl) <| d_gl (j := 25) (t := 43) rfl rfl rfl rfl rfl (by decide) (fun _ y67 => x_load1 T.na56 rfl ((((ha.1.ext H56.x).cell (i := i) (by omega)).fld 3 rfl).ext y67)) <| d_gq (j := 25) (t := 43) rfl rfl rfl rfl (by decide) (fun _ => x_lenSl rfl Tryz.underlying56 rfl) <| d_gq (j := 25) (t := 43) rfl rfl rfl rfl (by decide) (fun _ => mv) <| d_gq (j := 25) (t := 43) rfl rfl rfl rfl (by decide) (fun _ => mv) <| d_gq (j := 25) (t := 43) rfl rfl rfl rfl (by decide) (fun _ => x_index' T.sl22 rfl (hb.1.addr (by omega)) rfl (by omega)) <| d_gq (j := 25) (t := 43) rfl rfl rfl rfl (by decide) (fun _ => x_field (o := (ao b) + i * 5) T.fa65_2 rfl) <| d_gl (j := 25) (t := 43) rfl rfl rfl rfl rfl (by decide) (fun _ y68 => x_load1 T.na56 rfl ((((hb.ext H56.x).cell2 hE (i := i) (by omega)).fld 3 rfl).ext y68)) <| d_gq (j := 25) (t := 43) rfl rfl rfl rfl (by decide) (fun _ => x_lenSl rfl Tryz.underlying56 rfl) <| d_gq (j := 25) (t := 43) rfl rfl rfl rfl (by decide) (fun _ => x_neqN rfl rfl) <| d_q rfl rfl (fun _ => pkF rfl) <| d_if rfl rfl (p := ((el xs i).1.v.length) ≠ ((el xs i).1.v.length)) (fun _ => mv) (fun h69 => ?_) (fun h69 => ?_)
        · exact absurd h69 (fun h => h rfl)
        · refine d_gq (j := 40) (t := 58) rfl rfl rfl rfl (by decide) (fun _ => mv) <| d_gq (j := 40) (t := 58) rfl rfl rfl rfl (by decide) (fun _ => mv) <| d_gq (j := 40) (t := 58) rfl rfl rfl rfl (by decide) (fun _ => x_index' T.sl22 rfl ((ha.1.ext H56.x).addr (by omega)) rfl (by omega)) <| d_gq (j := 40) (t := 58) rfl rfl rfl rfl (by decide) (fun _ => x_field (o := (ao a) + i * 5) T.fa65_2 rfl) <| d_gl (j := 40) (t := 58) rfl rfl rfl rfl rfl (by decide) (fun _ y70 => x_load1 T.na56 rfl ((((ha.1.ext H56.x).cell (i := i) (by omega)).fld 3 rfl).ext y70)) <| d_gq (j := 40) (t := 58) rfl rfl rfl rfl (by decide) (fun _ => mv) <| d_gq (j := 40) (t := 58) rfl rfl rfl rfl (by decide) (fun _ => mv) <| d_gq (j := 40) (t := 58) rfl rfl rfl rfl (by decide) (fun _ => x_index' T.sl22 rfl (hb.1.addr (by omega)) rfl (by omega)) <| d_gq (j := 40) (t := 58) rfl rfl rfl rfl (by decide) (fun _ => x_field (o := (ao b) + i * 5) T.fa65_2 rfl) <| d_gl (j := 40) (t := 58) rfl rfl rfl rfl rfl (by decide) (fun _ y71 => x_load1 T.na56 rfl ((((hb.ext H56.x).cell2 hE (i := i) (by omega)).fld 3 rfl).ext y71)) <| d_e (by decide) <| d_c' rfl (wanted_true (j := 40) (t := 58) rfl rfl (by decide)) (t_call _ T.cf20 rfl rfl) (tuples20 _ _ _ _ _ _ _ ((ha.ext H62.x).2 i (by omega)).2.1 ((hb.ext H62.x).stq2 hE (i := i) (by omega)).2.1) fun _ w73 ⟨er, x72⟩ => ⟨_, er, ?_⟩
          have H74 := H62.ext x72
          have S75 := S63.trans (x72.mono S63.size)
          refine ⟨fun _ => S75, ?_⟩
          refine d_gq (j := 40) (t := 58) rfl rfl rfl rfl (by decide) (fun _ => x_neqN (b := 0) rfl rfl) <| d_q rfl rfl (fun _ => pkF rfl) <| d_if rfl rfl (p := 0 ≠ 0) (fun _ => mv) (fun h76 => ?_) (fun h76 => ?_)
          · exact absurd h76 (fun h => h rfl)
          · refine d_gq (j := 54) (t := 72) rfl rfl rfl rfl (by decide) (fun _ => mv) <| d_gq (j := 54) (t := 72) rfl rfl rfl rfl (by decide) (fun _ => mv) <| d_gq (j := 54) (t := 72) rfl rfl rfl rfl (by decide) (fun _ => x_index' T.sl22 rfl ((ha.1.ext H56.x).addr (by omega)) rfl (by omega)) <| d_gq (j := 54) (t := 72) rfl rfl rfl rfl (by decide) (fun _ => x_field (o := (ao a) + i * 5) T.fa65_3 rfl) <| d_gl (j := 54) (t := 72) rfl rfl rfl rfl rfl (by decide) (fun _ y77 => x_load1 T.na63 rfl ((((ha.1.ext H56.x).cell (i := i) (by omega)).fld 4 rfl).ext y77)) <| d_gq (j := 54) (t := 72) rfl rfl rfl rfl (by decide) (fun _ => x_lenSl rfl Tryz.underlying63 rfl) <| d_gq (j := 54) (t := 72) rfl rfl rfl rfl (by decide) (fun _ => mv) <| d_gq (j := 54) (t := 72) rfl rfl rfl rfl (by decide) (fun _ => mv) <| d_gq (j := 54) (t := 72) rfl rfl rfl rfl (by decide) (fun _ => x_index' T.sl22 rfl (hb.1.addr (by omega)) rfl (by omega)) <| d_gq (j := 54) (t := 72) rfl rfl rfl rfl (by decide) (fun _ => x_field (o := (ao b) + i * 5) T.fa65_3 rfl) <| d_gl (j := 54) (t := 72) rfl rfl rfl rfl rfl (by decide) (fun _ y78 => x_load1 T.na63 rfl ((((hb.ext H56.x).cell2 hE (i := i) (by omega)).fld 4 rfl).ext y78)) <| d_gq (j := 54) (t := 72) rfl rfl rfl rfl (by decide) (fun _ => x_lenSl rfl Tryz.underlying63 rfl) <| d_gq (j := 54) (t := 72) rfl rfl rfl rfl (by decide) (fun _ => x_neqN rfl rfl) <| d_q rfl rfl (fun _ => pkF rfl) <| d_done <| kn50 _ _ <| cndN (p := ((el xs i).1.f.length) ≠ ((el xs i).1.f.length)) rfl (fun h => h rfl) <| skip <| kn46 _ _ <| ?_
            refine sr fun Q79 k80 => qt asg <| nl <| k80 _ _ <| blockK fun Q81 kn82 kr83 kx84 kb85 => ?_
            refine loopK (α := Nat) (fun x => [(0, .slice a m c), (1, .slice b m d), (5, .int .i64 ((i : Nat) : Int)), (6, .int .i64 ((x : Nat) : Int))]) (fun x w86 => Hp No w0 w86 [] ∧ x ≤ (el xs i).1.f.length) (fun x => (el xs i).1.f.length - x) (0) ⟨rfl, rfl, rfl, rfl, trivial⟩ ?_ ?_
            · refine ⟨H74, ?_⟩
              try dsimp only
              exact Nat.zero_le _
            · rintro τ87 j w88 ⟨hx89, hj⟩
              try dsimp only at hj
              have hz90 := hx89.le
              intro Q91 kn92 kr93 ke94
              have hf := ((ha.ext hx89.x).2 i (by omega)).2.2.cap
              refine seqK fun Q95 kn96 kr97 ke98 => ?_
              refine sr fun Q99 k100 => qt mv <| qt mv <| qt mv <| qt (x_index' T.sl22 rfl ((ha.1.ext hx89.x).addr (by omega)) rfl (by omega)) <| qt (x_field (o := (ao a) + i * 5) T.fa65_3 rfl) <| qt (x_load1 T.na63 rfl (((ha.1.ext hx89.x).cell (i := i) (by omega)).fld 4 rfl)) <| qt (x_lenSl rfl Tryz.underlying63 rfl) <| qt (x_lssN rfl rfl) <| nl <| k100 _ _ <| cnd (p := j < ((el xs i).1.f.length)) rfl (fun h101 => ?_) (fun h101 => ?_)
              · refine skip <| kn96 _ _ <| seqK fun Q102 kn103 kr104 ke105 => blockK fun Q106 kn107 kr108 kx109 kb110 => seqK fun Q111 kn112 kr113 ke114 => regionD1 [4, 7, 12, 15] [0, 1, 2, 3, 4, 5, 6, 7, 8, 9, 10, 11, 12, 13, 14, 15, 16] (.one 0 (.one 1 (.one 2 (.one 3 (.one 4 (.one 5 (.one 6 (.one 7 (.one 8 (.one 9 (.one 10 (.one 11 (.one 12 (.one 13 (.one 14 (.one 15 (.one 16 .done))))))))))))))))) (by kernel_rfl) (by kernel_rfl) fun w115 x116 s117 => ?_
                have H118 := hx89.ext x116
                have S119 : Ext w115 w115 := Below.refl _ _
                refine d_q rfl rfl (fun _ => mv) <| d_q rfl rfl (fun _ => mv) <| d_q rfl rfl (fun _ => x_index' T.sl22 rfl ((ha.1.ext H118.x).addr (by omega)) rfl (by omega)) <| d_q rfl rfl (fun _ => x_field (o := (ao a) + i * 5) T.fa65_3 rfl) <| d_l rfl rfl rfl (fun _ y120 => x_load1 T.na63 rfl ((((ha.1.ext H118.x).cell (i := i) (by omega)).fld 4 rfl).ext y120)) <| d_q rfl rfl (fun _ => mv) <| d_q rfl rfl (fun _ => x_index' T.sl63 rfl (((ha.ext H118.x).2 i (by omega)).2.2.addr (by omega)) rfl (by omega)) <| d_l rfl rfl rfl (fun _ y121 => x_load1 T.na3 rfl ((((ha.ext H118.x).2 i (by omega)).2.2.cell (i := j) (by omega)).ext y121)) <| d_q rfl rfl (fun _ => mv) <| d_q rfl rfl (fun _ => mv) <| d_q rfl rfl (fun _ => x_index' T.sl22 rfl (hb.1.addr (by omega)) rfl (by omega)) <| d_q rfl rfl (fun _ => x_field (o := (ao b) + i * 5) T.fa65_3 rfl) <| d_l rfl rfl rfl (fun _ y122 => x_load1 T.na63 rfl ((((hb.ext H118.x).cell2 hE (i := i) (by omega)).fld 4 rfl).ext y122)) <| d_q rfl rfl (fun _ => mv) <| d_q rfl rfl (fun _ => x_index' T.sl63 rfl (((hb.ext H118.x).stq2 hE (i := i) (by omega)).2.2.addr (by omega)) rfl (by omega)) <| d_l rfl rfl rfl (fun _ y123 => x_load1 T.na3 rfl ((((hb.ext H118.x).stq2 hE (i := i) (by omega)).2.2.cell (i := j) (by omega)).ext y123)) <| d_q rfl rfl (fun _ => x_neq rfl rfl) <| d_done <| kn112 _ _ <| cndN (p := (el ((el xs i).1.f) j) ≠ (el ((el xs i).1.f) j)) rfl (fun h => h rfl) <| skip <| kn107 _ _ <| kn103 _ _ <| region <| qt mv <| qt (addN (b := 1) rfl rfl) <| qt asg <| nl <| kn92 _ ((j + 1)) _ ⟨rfl, rfl, rfl, rfl, trivial⟩ ⟨H118, ?_⟩ ?_
                · try dsimp only
                  exact (by omega)
                · (try dsimp only); omega
              · refine exit <| ke98 _ _ _ <| ke94 _ _ _ <| kb85 _ _ <| kn41 _ _ <| kn37 _ _ <| region <| qt mv <| qt (addN (b := 1) rfl rfl) <| qt asg <| nl <| kn26 _ ((i + 1)) _ ⟨rfl, rfl, rfl, trivial⟩ ⟨hx89, ?_⟩ ?_
                · try dsimp only
                  exact (by omega)
                · (try dsimp only); omega
    · refine exit <| ke32 _ _ _ <| ke28 _ _ _ <| kb19 _ _ <| kn10 _ _ <| ?_
      exact sr fun Q124 k125 => qt asg <| nl <| k125 _ _ <| ret <| leave1 (P := Tryz.prog) (fn := Tryz.f9) (t := 4) (v := .bool true) rfl rfl <| ⟨rfl, hx23.x⟩
end Go.Proofs.YtcgmhpenjjheiaaGreatDoor
