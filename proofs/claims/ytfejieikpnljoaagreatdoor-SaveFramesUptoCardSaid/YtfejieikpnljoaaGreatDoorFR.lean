/- Plain law of a frame: a number as four bytes, a sum, a frame. -/
import Derived.Test.YtfejieikpnljoaaGreatDoorV3
import Derived.Test.YtfejieikpnljoaaGreatDoorProg
import Derived.Test.YtfejieikpnljoaaGreatDoorHkW
namespace Go.FP
open Go.Eng
def four (n : Nat) : List Nat := [n / 2 ^ 24 % 256, n / 2 ^ 16 % 256, n / 2 ^ 8 % 256, n % 256]
theorem four_not {n : Nat} (h : n < 4294967296) : four (4294967295 - n) = [255 - n / 2 ^ 24 % 256, 255 - n / 2 ^ 16 % 256, 255 - n / 2 ^ 8 % 256, 255 - n % 256] := by
  simp only [four, List.cons.injEq, and_true]
  refine ⟨?_, ?_, ?_, ?_⟩ <;> omega
theorem four_lt {n x : Nat} (h : x ∈ four n) : x < 256 := by
  simp only [four, List.mem_cons, List.not_mem_nil, or_false] at h
  omega
def stepH (h c : Nat) : Nat := (h ^^^ c) * 16777619 % 4294967296
def sumL (l : List Nat) : Nat := l.foldl stepH 2166136261
theorem stepH_lt (h c : Nat) : stepH h c < 4294967296 := Nat.mod_lt _ (by decide)
theorem sumL_lt (l : List Nat) : sumL l < 4294967296 := by
  unfold sumL
  suffices ∀ (l : List Nat) (h : Nat), h < 4294967296 → l.foldl stepH h < 4294967296 from this l _ (by decide)
  intro l
  induction l with
  | nil => intro h hh; exact hh
  | cons c l ih => intro h _; exact ih _ (stepH_lt h c)
theorem sumL_step {l : List Nat} {i : Nat} (hi : i < l.length) : sumL (l.take (i + 1)) = stepH (sumL (l.take i)) (el l i) := by
  unfold sumL
  rw [List.take_succ_eq_append_getElem hi, List.foldl_append, el_eq hi, List.foldl_cons, List.foldl_nil]
def frameL (k : Nat) (body : List Nat) : List Nat := [k] ++ four body.length ++ four (4294967295 - body.length) ++ body ++ four (sumL ([k] ++ body))
theorem dT {p : Prop} [Decidable p] (h : p) : (Value.bool true) = .bool (decide p) := by rw [decide_eq_true h]
theorem dF {p : Prop} [Decidable p] (h : ¬ p) : (Value.bool false) = .bool (decide p) := by rw [decide_eq_false h]
theorem dq {p q : Prop} [Decidable p] [Decidable q] (h : p ↔ q) : (Value.bool (decide p)) = .bool (decide q) := by
  congr 1
  exact decide_eq_decide.2 h
theorem pre {α : Type} {E : En α} {h : Array Obj} {a : Option Addr} {m k c : Nat} {xs ys : List α} (hs : Srm E h a (m + k) c (xs ++ ys)) (hl : xs.length = m) : Srm E h a m c xs := by
  obtain ⟨h1, a', c', hv, h2, h3, h4⟩ := hs
  injection hv with e1 _ e3
  subst e1 e3
  refine ⟨by rw [flat_length E.len, hl], a, c, rfl, by omega, h3, ?_⟩
  rcases h4 with h4 | ⟨b, o, ha, hC⟩
  · exact .inl (by omega)
  · rw [flat_append] at hC
    obtain ⟨arr, t, z, h5, h6⟩ := hC
    exact .inr ⟨b, o, ha, arr, t, z, h5, fun j hj => by rw [h6 j (by rw [List.length_append]; omega), List.getElem_append_left hj]⟩
theorem end0 {xs : List Nat} {m : Nat} (h : xs.length = m) : el (xs ++ [201, 77]) m = 201 := by
  subst h
  rw [el_eq (by simp)]; simp
theorem end1 {xs : List Nat} {m : Nat} (h : xs.length = m) : el (xs ++ [201, 77]) (m + 1) = 77 := by
  subst h
  rw [el_eq (by simp)]; simp
end Go.FP
namespace Go.FP
open Go.Eng
theorem el_four (n : Nat) : ∀ i, el (four n) i < 256
  | 0 => Nat.mod_lt _ (by decide)
  | 1 => Nat.mod_lt _ (by decide)
  | 2 => Nat.mod_lt _ (by decide)
  | 3 => Nat.mod_lt _ (by decide)
  | _ + 4 => by show (0 : Nat) < 256; decide
theorem four_step {n : Nat} (h : n < 4294967296) : ∀ {i : Nat}, i < 4 → (four (4294967295 - n)).take (i + 1) = (four (4294967295 - n)).take i ++ [255 - el (four n) i]
  | 0, _ => by rw [four_not h]; rfl
  | 1, _ => by rw [four_not h]; rfl
  | 2, _ => by rw [four_not h]; rfl
  | 3, _ => by rw [four_not h]; rfl
  | _ + 4, hi => by omega
theorem four_len (n : Nat) : (four n).length = 4 := rfl
end Go.FP
namespace Go.Proofs.YtfejieikpnljoaaGreatDoor
open Go.RowKit Go.Eng Go.FP

theorem four12 (n : Nat) (w0 : World) :
    Calls Tryz.prog 12 #[.int .u32 ((n : Nat) : Int)] w0 fun e w' => ∃ b, e = .returned (.slice (some ⟨b, 0, none⟩) 4 4) ∧ Hp No w0 w' [cQ 5 eY (some ⟨b, 0, none⟩) 4 4 (four n)] := by
  refine enter Tryz.func12 rfl 15 Tryz.ntmps12 rfl <| ?_
  refine sr fun Q1 k2 => qt asg <| nl <| k2 _ _ <| ?_
  refine sr fun Q3 k4 => qt mv <| qt (x_shr32 (s := 24) rfl rfl (by decide)) <| qt (x_conv8 Tryz.underlying5 Tryz.underlying25 rfl) <| qt mv <| qt (x_shr32 (s := 16) rfl rfl (by decide)) <| qt (x_conv8 Tryz.underlying5 Tryz.underlying25 rfl) <| qt mv <| qt (x_shr32 (s := 8) rfl rfl (by decide)) <| qt (x_conv8 Tryz.underlying5 Tryz.underlying25 rfl) <| qt mv <| qt (x_conv8 Tryz.underlying5 Tryz.underlying25 rfl) <| ?_
  exact st_e <| Ebs (cs := [.int .u8 ((((n / 2 ^ 24) % 256) : Nat) : Int), .int .u8 ((((n / 2 ^ 16) % 256) : Nat) : Int), .int .u8 ((((n / 2 ^ 8) % 256) : Nat) : Int), .int .u8 (((n % 256) : Nat) : Int)]) (e := 5) (Hp.start No w0) (fun _ => by kernel_rfl) fun b5 w6 H7 x8 => qt asg <| nl <| k4 _ _ <| ret <| leave1 (P := Tryz.prog) (fn := Tryz.f12) (t := 2) (v := .slice (some ⟨b5, 0, none⟩) 4 4) rfl rfl <| ⟨_, rfl, (H7.toQ eY 0 [(n / 2 ^ 24 % 256), (n / 2 ^ 16 % 256), (n / 2 ^ 8 % 256), (n % 256)] rfl rfl (Nat.le_of_ble_eq_true rfl))⟩
theorem four13 (n : Nat) (w0 : World) :
    Calls Tryz.prog 13 #[.int .u32 ((n : Nat) : Int)] w0 fun e w' => ∃ b, e = .returned (.slice (some ⟨b, 0, none⟩) 4 4) ∧ Hp No w0 w' [cQ 5 eY (some ⟨b, 0, none⟩) 4 4 (four n)] := by
  refine enter Tryz.func13 rfl 15 Tryz.ntmps13 rfl <| ?_
  refine sr fun Q1 k2 => qt asg <| nl <| k2 _ _ <| ?_
  refine sr fun Q3 k4 => qt mv <| qt (x_shr32 (s := 24) rfl rfl (by decide)) <| qt (x_conv8 Tryz.underlying5 Tryz.underlying25 rfl) <| qt mv <| qt (x_shr32 (s := 16) rfl rfl (by decide)) <| qt (x_conv8 Tryz.underlying5 Tryz.underlying25 rfl) <| qt mv <| qt (x_shr32 (s := 8) rfl rfl (by decide)) <| qt (x_conv8 Tryz.underlying5 Tryz.underlying25 rfl) <| qt mv <| qt (x_conv8 Tryz.underlying5 Tryz.underlying25 rfl) <| ?_
  exact st_e <| Ebs (cs := [.int .u8 ((((n / 2 ^ 24) % 256) : Nat) : Int), .int .u8 ((((n / 2 ^ 16) % 256) : Nat) : Int), .int .u8 ((((n / 2 ^ 8) % 256) : Nat) : Int), .int .u8 (((n % 256) : Nat) : Int)]) (e := 5) (Hp.start No w0) (fun _ => by kernel_rfl) fun b5 w6 H7 x8 => qt asg <| nl <| k4 _ _ <| ret <| leave1 (P := Tryz.prog) (fn := Tryz.f13) (t := 2) (v := .slice (some ⟨b5, 0, none⟩) 4 4) rfl rfl <| ⟨_, rfl, (H7.toQ eY 0 [(n / 2 ^ 24 % 256), (n / 2 ^ 16 % 256), (n / 2 ^ 8 % 256), (n % 256)] rfl rfl (Nat.le_of_ble_eq_true rfl))⟩
end Go.Proofs.YtfejieikpnljoaaGreatDoor
namespace Go.Proofs.YtfejieikpnljoaaGreatDoor
open Go.RowKit Go.Eng Go.FP
theorem T.sl22 : SL Tryz.prog 22 5 1 1 (.int .u8 ((0 : Nat) : Int)) := sl_mk Tryz.underlying22 (by kernel_rfl) rfl (by decide)
theorem T.na5 : NA Tryz.prog 5 := fun _ => by kernel_rfl
theorem sum7 (xs : List Nat) (a : Option Addr) (m c : Nat) (w0 : World) (hs : Srm eY w0.heap a m c xs) (hb : ∀ i, i < m → el xs i < 256) :
    Calls Tryz.prog 7 #[.slice a m c] w0 fun e w' => e = .returned (.int .u32 ((sumL xs : Nat) : Int)) ∧ w0 = w' := by
  have hc := hs.cap
  have hl := hs.len
  refine enter Tryz.func7 rfl 20 Tryz.ntmps7 rfl <| ?_
  refine sr fun Q1 k2 => qt asg <| nl <| k2 _ _ <| ?_
  refine sr fun Q3 k4 => qt asg <| nl <| k4 _ _ <| seqK fun Q5 kn6 kr7 ke8 => ?_
  refine sr fun Q9 k10 => qt mv <| qt (x_lenSl rfl Tryz.underlying22 rfl) <| qt mv <| nl <| k10 _ _ <| blockK fun Q11 kn12 kr13 kx14 kb15 => ?_
  refine loopK (α := Nat × Nat) (fun x => [(3, .int .u32 ((x.2 : Nat) : Int)), (6, .slice a m c), (7, .int .i64 ((m : Nat) : Int)), (8, .int .i64 ((x.1 : Nat) : Int))]) (fun x w16 => w0 = w16 ∧ x.1 ≤ m ∧ x.2 = sumL (xs.take x.1) ∧ x.2 < 4294967296) (fun x => m - x.1) (0, 2166136261) ⟨rfl, rfl, rfl, rfl, trivial⟩ ?_ ?_
  · refine ⟨rfl, ?_⟩
    try dsimp only
    exact ⟨Nat.zero_le _, rfl, by decide⟩
  · rintro τ17 ⟨i, h⟩ w18 ⟨rfl, ⟨hi, hh, hh2⟩⟩
    try dsimp only at hi hh hh2
    intro Q19 kn20 kr21 ke22
    refine sr fun Q23 k24 => qt (x_lssN rfl rfl) <| nl <| k24 _ _ <| seqK fun Q25 kn26 kr27 ke28 => cnd (p := i < m) rfl (fun h29 => ?_) (fun h29 => ?_)
    · refine skip <| kn26 _ _ <| seqK fun Q30 kn31 kr32 ke33 => blockK fun Q34 kn35 kr36 kx37 kb38 => ?_
      refine sr fun Q39 k40 => qt (x_index' T.sl22 rfl (hs.addr (by omega)) rfl (by omega)) <| qt (x_load1 T.na5 rfl (hs.cell (i := i) (by omega))) <| qt asg <| nl <| k40 _ _ <| ?_
      refine sr fun Q41 k42 => qt mv <| qt mv <| qt (x_conv32 Tryz.underlying25 Tryz.underlying5 rfl (by have := hb i (by omega); omega)) <| qt (x_xor32 rfl rfl (by omega) (by have := hb i (by omega); omega)) <| qt asg <| nl <| k42 _ _ <| region <| qt mv <| qt (x_mul32 (b := 16777619) rfl rfl) <| qt asg <| nl <| kn35 _ _ <| kn31 _ _ <| region <| qt (addN (b := 1) rfl rfl) <| qt mv <| nl <| kn20 _ ((i + 1), ((h ^^^ el xs i) * 16777619 % 4294967296)) _ ⟨rfl, rfl, rfl, rfl, trivial⟩ ⟨rfl, ?_⟩ ?_
      · try dsimp only
        exact ⟨by omega, by rw [sumL_step (by omega), ← hh]; rfl, Nat.mod_lt _ (by decide)⟩
      · (try dsimp only); omega
    · refine exit <| ke28 _ _ _ <| ke22 _ _ _ <| kb15 _ _ <| kn6 _ _ <| ?_
      exact sr fun Q43 k44 => qt mv <| qt asg <| nl <| k44 _ _ <| ret <| leave1 (P := Tryz.prog) (fn := Tryz.f7) (t := 2) (v := .int .u32 ((h : Nat) : Int)) rfl rfl <| ⟨by rw [hh, List.take_of_length_le (by omega)], rfl⟩
theorem sum8 (xs : List Nat) (a : Option Addr) (m c : Nat) (w0 : World) (hs : Srm eY w0.heap a m c xs) (hb : ∀ i, i < m → el xs i < 256) :
    Calls Tryz.prog 8 #[.slice a m c] w0 fun e w' => e = .returned (.int .u32 ((sumL xs : Nat) : Int)) ∧ w0 = w' := by
  have hc := hs.cap
  have hl := hs.len
  refine enter Tryz.func8 rfl 21 Tryz.ntmps8 rfl <| ?_
  refine sr fun Q1 k2 => qt asg <| nl <| k2 _ _ <| ?_
  refine sr fun Q3 k4 => qt asg <| nl <| k4 _ _ <| seqK fun Q5 kn6 kr7 ke8 => ?_
  refine sr fun Q9 k10 => qt asg <| nl <| k10 _ _ <| blockK fun Q11 kn12 kr13 kx14 kb15 => ?_
  refine loopK (α := Nat × Nat) (fun x => [(0, .slice a m c), (3, .int .u32 ((x.2 : Nat) : Int)), (4, .int .i64 ((x.1 : Nat) : Int))]) (fun x w16 => w0 = w16 ∧ x.1 ≤ m ∧ x.2 = sumL (xs.take x.1) ∧ x.2 < 4294967296) (fun x => m - x.1) (0, 2166136261) ⟨rfl, rfl, rfl, trivial⟩ ?_ ?_
  · refine ⟨rfl, ?_⟩
    try dsimp only
    exact ⟨Nat.zero_le _, rfl, by decide⟩
  · rintro τ17 ⟨i, h⟩ w18 ⟨rfl, ⟨hi, hh, hh2⟩⟩
    try dsimp only at hi hh hh2
    intro Q19 kn20 kr21 ke22
    refine seqK fun Q23 kn24 kr25 ke26 => ?_
    refine sr fun Q27 k28 => qt mv <| qt mv <| qt (x_lenSl rfl Tryz.underlying22 rfl) <| qt (x_lssN rfl rfl) <| nl <| k28 _ _ <| cnd (p := i < m) rfl (fun h29 => ?_) (fun h29 => ?_)
    · refine skip <| kn24 _ _ <| seqK fun Q30 kn31 kr32 ke33 => blockK fun Q34 kn35 kr36 kx37 kb38 => ?_
      refine sr fun Q39 k40 => qt mv <| qt mv <| qt mv <| qt (x_index' T.sl22 rfl (hs.addr (by omega)) rfl (by omega)) <| qt (x_load1 T.na5 rfl (hs.cell (i := i) (by omega))) <| qt (x_conv32 Tryz.underlying25 Tryz.underlying5 rfl (by have := hb i (by omega); omega)) <| qt (x_xor32 rfl rfl (by omega) (by have := hb i (by omega); omega)) <| qt asg <| nl <| k40 _ _ <| region <| qt mv <| qt (x_mul32 (b := 16777619) rfl rfl) <| qt asg <| nl <| kn35 _ _ <| kn31 _ _ <| region <| qt mv <| qt (addN (b := 1) rfl rfl) <| qt asg <| nl <| kn20 _ ((i + 1), ((h ^^^ el xs i) * 16777619 % 4294967296)) _ ⟨rfl, rfl, rfl, trivial⟩ ⟨rfl, ?_⟩ ?_
      · try dsimp only
        exact ⟨by omega, by rw [sumL_step (by omega), ← hh]; rfl, Nat.mod_lt _ (by decide)⟩
      · (try dsimp only); omega
    · refine exit <| ke26 _ _ _ <| ke22 _ _ _ <| kb15 _ _ <| kn6 _ _ <| ?_
      exact sr fun Q41 k42 => qt mv <| qt asg <| nl <| k42 _ _ <| ret <| leave1 (P := Tryz.prog) (fn := Tryz.f8) (t := 2) (v := .int .u32 ((h : Nat) : Int)) rfl rfl <| ⟨by rw [hh, List.take_of_length_le (by omega)], rfl⟩
end Go.Proofs.YtfejieikpnljoaaGreatDoor
namespace Go.Proofs.YtfejieikpnljoaaGreatDoor
open Go.RowKit Go.Eng Go.FP
theorem T.sz5 : SZ Tryz.prog 5 1 := fun _ => by kernel_rfl
theorem lent4 (xs : List Nat) (a : Option Addr) (m c : Nat) (w0 : World) (hs : Srm eY w0.heap a m c xs) (hm : m ≤ 1048576) :
    Calls Tryz.prog 4 #[.slice a m c] w0 fun e w' => ∃ a' c', e = .returned (.slice a' m c') ∧ Hp No w0 w' [cQ 5 eY a' (m + 2) c' (xs ++ [201, 77])] := by
  have hc := hs.cap
  have hl := hs.len
  refine enter Tryz.func4 rfl 12 Tryz.ntmps4 rfl <| ?_
  refine sr fun Q1 k2 => qt asg <| nl <| k2 _ _ <| ?_
  refine sr fun Q3 k4 => qt mv <| ?_
  refine st_e <| EapQ ((Hp.start No w0).nilQ 5 eY) 0 T.sl22 rfl rfl rfl (hs.ext ((Hp.start No w0).nilQ 5 eY).x) (by omega) rfl rfl fun a5 c6 w7 H8 => ?_
  refine st_e <| Ebs (cs := [.int .u8 ((201 : Nat) : Int), .int .u8 ((77 : Nat) : Int)]) (e := 5) H8 (fun _ => by kernel_rfl) fun b9 w10 H11 x12 => ?_
  refine st_e <| EapQ (H11.toQ eY 0 [201, 77] rfl rfl (Nat.le_of_ble_eq_true rfl)) 1 T.sl22 rfl rfl rfl ((H11.toQ eY 0 [201, 77] rfl rfl (Nat.le_of_ble_eq_true rfl)).srQ 0 rfl) (by omega) rfl rfl fun a13 c14 w15 H16 => qt asg <| nl <| k4 _ _ <| ?_
  refine sr fun Q17 k18 => qt mv <| qt mv <| qt (x_lenSl rfl Tryz.underlying22 rfl) <| qt (x_sliceHi T.sl22 rfl rfl (by have := (H16.srQ 1 rfl).cap; omega)) <| qt asg <| nl <| k18 _ _ <| ret <| leave1 (P := Tryz.prog) (fn := Tryz.f4) (t := 2) (v := .slice a13 m c14) rfl rfl <| ?_
  have H19 : Hp No w0 w15 [cQ 5 eY a13 ((0 + m) + 2) c14 (([] ++ xs) ++ [201, 77])] := (H16.pick [1] (by decide))
  exact ⟨_, _, rfl, by simpa only [Nat.zero_add, List.nil_append] using H19⟩
theorem left9 (xs : List Nat) (a b : Option Addr) (m c d : Nat) (w0 : World) (hs1 : Srm eY w0.heap a m c xs) (hs2 : Srm eY w0.heap a (m + 2) c (xs ++ [201, 77])) (hb : Srm eY w0.heap b m d xs) (hm : m ≤ 1048576) :
    Calls Tryz.prog 9 #[.slice a m c, .slice b m d] w0 fun e w' => e = .returned (.bool true) ∧ w0 = w' := by
  have hc := hs2.cap
  have hl := hs1.len
  refine enter Tryz.func9 rfl 33 Tryz.ntmps9 rfl <| ?_
  refine sr fun Q1 k2 => qt asg <| nl <| k2 _ _ <| ?_
  refine sr fun Q3 k4 => qt mv <| qt (x_lenSl rfl Tryz.underlying22 rfl) <| qt asg <| nl <| k4 _ _ <| ?_
  refine sr fun Q5 k6 => qt mv <| qt mv <| qt (addN (b := 2) rfl rfl) <| qt (x_sliceHi T.sl22 rfl rfl (by omega)) <| qt asg <| nl <| k6 _ _ <| ?_
  refine sr fun Q7 k8 => qt mv <| qt (x_toS Tryz.underlying22 Tryz.underlying5 Tryz.underlying9 rfl hs1) <| qt mv <| qt (x_toS Tryz.underlying22 Tryz.underlying5 Tryz.underlying9 rfl hb) <| qt (x_eqlS rfl rfl) <| st_if (p := (sN xs).toList = (sN xs).toList) (x_move rfl) (fun h9 => ?_) (fun h9 => ?_)
  · refine st_gq 5 18 rfl rfl (by decide) <| qt mv <| st_gq 5 18 rfl rfl (by decide) <| qt mv <| st_gq 5 18 rfl rfl (by decide) <| qt (x_index' T.sl22 rfl (hs2.addr (by omega)) rfl (by omega)) <| st_gq 5 18 rfl rfl (by decide) <| qt (x_load1 T.na5 rfl (hs2.cell (i := m) (by omega))) <| st_gq 5 18 rfl rfl (by decide) <| qt (x_eqlN (b := 201) rfl rfl) <| qt (pkT rfl) <| st_if (p := (el (xs ++ [201, 77]) m) = 201) (x_move rfl) (fun h10 => ?_) (fun h10 => ?_)
    · exact st_gq 12 25 rfl rfl (by decide) <| qt mv <| st_gq 12 25 rfl rfl (by decide) <| qt mv <| st_gq 12 25 rfl rfl (by decide) <| qt (addN (b := 1) rfl rfl) <| st_gq 12 25 rfl rfl (by decide) <| qt (x_index' T.sl22 rfl (hs2.addr (by omega)) rfl (by omega)) <| st_gq 12 25 rfl rfl (by decide) <| qt (x_load1 T.na5 rfl (hs2.cell (i := (m + 1)) (by omega))) <| st_gq 12 25 rfl rfl (by decide) <| qt (x_eqlN (b := 77) rfl rfl) <| qt (pkT rfl) <| qt asg <| nl <| k8 _ _ <| ret <| leave1 (P := Tryz.prog) (fn := Tryz.f9) (t := 4) (v := .bool (decide ((el (xs ++ [201, 77]) (m + 1)) = 77))) rfl rfl <| ⟨congrArg Ending.returned (dT (end1 hl)).symm, rfl⟩
    · exact absurd h10 (not_not_intro (end0 hl))
  · exact absurd h9 (not_not_intro rfl)
theorem spoil10 (S : Nat → Prop) (xs : List Nat) (a : Option Addr) (m c : Nat) (w0 : World) (H0 : Hp S w0 w0 [cQ 5 eY a m c xs]) (hm : m ≤ 2097152) :
    Calls Tryz.prog 10 #[.slice a m c] w0 fun e w' => e = .returned (.tuple #[]) ∧ Hp S w0 w' [] := by
  refine enter Tryz.func10 rfl 20 Tryz.ntmps10 rfl <| seqK fun Q1 kn2 kr3 ke4 => ?_
  refine sr fun Q5 k6 => qt asg <| nl <| k6 _ _ <| blockK fun Q7 kn8 kr9 kx10 kb11 => ?_
  refine loopK (α := Nat × (List Nat)) (fun x => [(0, .slice a m c), (2, .int .i64 ((x.1 : Nat) : Int))]) (fun x w12 => Hp S w0 w12 [cQ 5 eY a m c x.2] ∧ x.1 ≤ m) (fun x => m - x.1) (0, xs) ⟨rfl, rfl, trivial⟩ ?_ ?_
  · refine ⟨H0, ?_⟩
    try dsimp only
    exact Nat.zero_le _
  · rintro τ13 ⟨i, zs⟩ w14 ⟨hx15, hi⟩
    try dsimp only at hi
    have hz16 := hx15.le
    intro Q17 kn18 kr19 ke20
    dsimp only at hx15 ⊢
    refine seqK fun Q21 kn22 kr23 ke24 => ?_
    refine sr fun Q25 k26 => qt mv <| qt mv <| qt (x_lenSl rfl Tryz.underlying22 rfl) <| qt (x_lssN rfl rfl) <| nl <| k26 _ _ <| cnd (p := i < m) rfl (fun h27 => ?_) (fun h27 => ?_)
    · refine skip <| kn22 _ _ <| seqK fun Q28 kn29 kr30 ke31 => blockK fun Q32 kn33 kr34 kx35 kb36 => region <| qt mv <| qt mv <| qt (x_index' T.sl22 rfl ((hx15.srQ 0 rfl).addr (by omega)) rfl (by omega)) <| ?_
      refine st_s <| EsoQ (j := i) hx15 0 85 T.sz5 rfl rfl rfl rfl (by omega) fun w37 H38 => nl <| kn33 _ _ <| kn29 _ _ <| region <| qt mv <| qt (addN (b := 1) rfl rfl) <| qt asg <| nl <| ?_
      refine kn18 _ ((i + 1), (zs.set i 85)) _ ⟨rfl, rfl, trivial⟩ ⟨H38, ?_⟩ ?_
      · try dsimp only
        exact (by omega)
      · (try dsimp only); omega
    · refine exit <| ke24 _ _ _ <| ke20 _ _ _ <| kb11 _ _ <| kn2 _ _ <| ?_
      refine sr fun Q39 k40 => qt asg <| nl <| k40 _ _ <| blockK fun Q41 kn42 kr43 kx44 kb45 => ?_
      refine loopK (α := Nat × (Option Addr) × Nat × (List Nat)) (fun x => [(0, .slice x.2.1 (m + x.1) x.2.2.1), (3, .int .i64 ((x.1 : Nat) : Int))]) (fun x w46 => Hp S w0 w46 [cQ 5 eY x.2.1 (m + x.1) x.2.2.1 x.2.2.2] ∧ x.1 ≤ 40) (fun x => 40 - x.1) (0, a, c, zs) ⟨rfl, rfl, trivial⟩ ?_ ?_
      · refine ⟨hx15, ?_⟩
        try dsimp only
        exact Nat.zero_le _
      · rintro τ47 ⟨k, a2, c2, ys⟩ w48 ⟨hx49, hk⟩
        try dsimp only at hk
        have hz50 := hx49.le
        intro Q51 kn52 kr53 ke54
        dsimp only at hx49 ⊢
        refine seqK fun Q55 kn56 kr57 ke58 => ?_
        refine sr fun Q59 k60 => qt mv <| qt (x_lssN (b := 40) rfl rfl) <| nl <| k60 _ _ <| cnd (p := k < 40) rfl (fun h61 => ?_) (fun h61 => ?_)
        · refine skip <| kn56 _ _ <| seqK fun Q62 kn63 kr64 ke65 => blockK fun Q66 kn67 kr68 kx69 kb70 => region <| qt mv <| ?_
          refine st_e <| Ebs (cs := [.int .u8 ((85 : Nat) : Int)]) (e := 5) hx49 (fun _ => by kernel_rfl) fun b71 w72 H73 x74 => ?_
          refine st_e <| EapQ (H73.toQ eY 0 [85] rfl rfl (Nat.le_of_ble_eq_true rfl)) 1 T.sl22 rfl rfl rfl ((H73.toQ eY 0 [85] rfl rfl (Nat.le_of_ble_eq_true rfl)).srQ 0 rfl) (by omega) rfl rfl fun a75 c76 w77 H78 => qt asg <| nl <| kn67 _ _ <| kn63 _ _ <| region <| qt mv <| qt (addN (b := 1) rfl rfl) <| qt asg <| nl <| kn52 _ ((k + 1), a75, c76, (ys ++ [85])) _ ⟨rfl, rfl, trivial⟩ ⟨(H78.pick [1] (by decide)), ?_⟩ ?_
          · try dsimp only
            exact (by omega)
          · (try dsimp only); omega
        · exact exit <| ke58 _ _ _ <| ke54 _ _ _ <| kb45 _ _ <| leave0' (P := Tryz.prog) (fn := Tryz.f10) rfl <| ⟨rfl, (hx49.pick [] (by decide))⟩
end Go.Proofs.YtfejieikpnljoaaGreatDoor
namespace Go.Proofs.YtfejieikpnljoaaGreatDoor
open Go.RowKit Go.Eng Go.FP
theorem T.cf12 : CF Tryz.prog 12 := fun _ _ => by kernel_rfl
theorem T.cf7 : CF Tryz.prog 7 := fun _ _ => by kernel_rfl
theorem frame5 (k : Nat) (xs : List Nat) (a : Option Addr) (m c : Nat) (w0 : World) (hs : Srm eY w0.heap a m c xs) (hk : k < 256) (hb : ∀ i, i < m → el xs i < 256) (hm : m ≤ 2097152) :
    Calls Tryz.prog 5 #[.int .u8 ((k : Nat) : Int), .slice a m c] w0 fun e w' => ∃ a' c', e = .returned (.slice a' (m + 13) c') ∧ Hp No w0 w' [cQ 5 eY a' (m + 13) c' (FP.frameL k xs)] := by
  have hc := hs.cap
  have hl : xs.length = m := hs.len
  have hb1 : ∀ i, i < 1 + m → el ([k] ++ xs) i < 256 := by
    intro i hi
    rcases Nat.eq_zero_or_pos i with rfl | h0
    · exact hk
    · obtain ⟨j, rfl⟩ := Nat.exists_eq_add_of_le h0
      have := hb j (by omega)
      rwa [show el ([k] ++ xs) (1 + j) = el xs j from by rw [Nat.add_comm]; rfl]
  refine enter Tryz.func5 rfl 38 Tryz.ntmps5 rfl <| ?_
  refine sr fun Q1 k2 => qt asg <| nl <| k2 _ _ <| ?_
  refine sr fun Q3 k4 => qt mv <| qt (x_lenSl rfl Tryz.underlying22 rfl) <| qt (addN (b := 13) rfl rfl) <| ?_
  refine st_e <| EmkC (E := eY) (Hp.start No w0) T.sl22 (0) rfl rfl (by omega) (by omega) rfl fun b5 w6 H7 => qt asg <| nl <| k4 _ _ <| ?_
  refine sr fun Q8 k9 => qt mv <| qt mv <| ?_
  refine st_e <| Ebs (cs := [.int .u8 ((k : Nat) : Int)]) (e := 5) H7 (fun _ => by kernel_rfl) fun b10 w11 H12 x13 => ?_
  refine st_e <| EapQ (H12.toQ eY 0 [k] rfl rfl (Nat.le_of_ble_eq_true rfl)) 1 T.sl22 rfl rfl rfl ((H12.toQ eY 0 [k] rfl rfl (Nat.le_of_ble_eq_true rfl)).srQ 0 rfl) (by omega) rfl rfl fun a14 c15 w16 H17 => qt asg <| nl <| k9 _ _ <| ?_
  refine sr fun Q18 k19 => qt mv <| qt mv <| qt (x_lenSl rfl Tryz.underlying22 rfl) <| qt (x_conv32 Tryz.underlying25 Tryz.underlying3 rfl (by omega)) <| ?_
  refine cl T.cf12 (four12 m w16) rfl fun _ w22 ⟨b20, er, K21⟩ => ⟨_, er, ?_⟩
  have H23 := H17.app' K21
  refine st_e <| EapQ H23 2 T.sl22 rfl rfl rfl (H23.srQ 0 rfl) (by omega) rfl rfl fun a24 c25 w26 H27 => qt asg <| nl <| k19 _ _ <| ?_
  refine sr fun Q28 k29 => qt mv <| qt mv <| qt (x_lenSl rfl Tryz.underlying22 rfl) <| qt (x_conv32 Tryz.underlying25 Tryz.underlying3 rfl (by omega)) <| qt (x_not32 rfl (by omega)) <| ?_
  refine cl T.cf12 (four12 (4294967295 - m) w26) rfl fun _ w32 ⟨b30, er, K31⟩ => ⟨_, er, ?_⟩
  have H33 := H27.app' K31
  refine st_e <| EapQ H33 3 T.sl22 rfl rfl rfl (H33.srQ 0 rfl) (by omega) rfl rfl fun a34 c35 w36 H37 => qt asg <| nl <| k29 _ _ <| ?_
  refine sr fun Q38 k39 => qt mv <| qt mv <| ?_
  refine st_e <| EapQ H37 3 T.sl22 rfl rfl rfl (hs.ext H37.x) (by omega) rfl rfl fun a40 c41 w42 H43 => qt asg <| nl <| k39 _ _ <| ?_
  refine sr fun Q44 k45 => qt mv <| qt mv <| ?_
  refine st_e <| Ebs (cs := [.int .u8 ((k : Nat) : Int)]) (e := 5) H43 (fun _ => by kernel_rfl) fun b46 w47 H48 x49 => qt mv <| ?_
  refine st_e <| EapQ (H48.toQ eY 0 [k] rfl rfl (Nat.le_of_ble_eq_true rfl)) 0 T.sl22 rfl rfl rfl (hs.ext (H48.toQ eY 0 [k] rfl rfl (Nat.le_of_ble_eq_true rfl)).x) (by omega) rfl rfl fun a50 c51 w52 H53 => ?_
  refine cl T.cf7 (sum7 ([k] ++ xs) _ _ _ _ (H53.srQ 0 rfl) hb1) rfl fun _ _ ⟨er, rfl⟩ => ⟨_, er, ?_⟩
  refine cl T.cf12 (four12 (FP.sumL ([k] ++ xs)) w52) rfl fun _ w57 ⟨b55, er, K56⟩ => ⟨_, er, ?_⟩
  have H58 := H53.app' K56
  refine st_e <| EapQ H58 5 T.sl22 rfl rfl rfl (H58.srQ 0 rfl) (by omega) rfl rfl fun a59 c60 w61 H62 => qt asg <| nl <| k45 _ _ <| ret <| leave1 (P := Tryz.prog) (fn := Tryz.f5) (t := 4) (v := .slice a59 (((((0 + 1) + 4) + 4) + m) + 4) c60) rfl rfl <| ?_
  have H63 : Hp No w0 w61 [cQ 5 eY a59 (((((0 + 1) + 4) + 4) + m) + 4) c60 ((((([] ++ [k]) ++ (FP.four m)) ++ (FP.four (4294967295 - m))) ++ xs) ++ (FP.four (FP.sumL ([k] ++ xs))))] := (H62.pick [5] (by decide))
  have e : (((((0 + 1) + 4) + 4) + m) + 4) = m + 13 := by omega
  rw [e] at H63 ⊢
  exact ⟨_, _, rfl, by unfold FP.frameL; rw [hl]; exact H63⟩
end Go.Proofs.YtfejieikpnljoaaGreatDoor
namespace Go.Proofs.YtfejieikpnljoaaGreatDoor
open Go.RowKit Go.Eng Go.FP
theorem T.cf13 : CF Tryz.prog 13 := fun _ _ => by kernel_rfl
theorem T.cf8 : CF Tryz.prog 8 := fun _ _ => by kernel_rfl
theorem frame6 (k : Nat) (xs : List Nat) (a : Option Addr) (m c : Nat) (w0 : World) (hs : Srm eY w0.heap a m c xs) (hk : k < 256) (hb : ∀ i, i < m → el xs i < 256) (hm : m ≤ 2097152) :
    Calls Tryz.prog 6 #[.int .u8 ((k : Nat) : Int), .slice a m c] w0 fun e w' => ∃ a' c', e = .returned (.slice a' (m + 13) c') ∧ Hp No w0 w' [cQ 5 eY a' (m + 13) c' (FP.frameL k xs)] := by
  have hc := hs.cap
  have hl : xs.length = m := hs.len
  have hb1 : ∀ i, i < 1 + m → el ([k] ++ xs) i < 256 := by
    intro i hi
    rcases Nat.eq_zero_or_pos i with rfl | h0
    · exact hk
    · obtain ⟨j, rfl⟩ := Nat.exists_eq_add_of_le h0
      have := hb j (by omega)
      rwa [show el ([k] ++ xs) (1 + j) = el xs j from by rw [Nat.add_comm]; rfl]
  refine enter Tryz.func6 rfl 41 Tryz.ntmps6 rfl <| ?_
  refine sr fun Q1 k2 => qt asg <| nl <| k2 _ _ <| ?_
  refine sr fun Q3 k4 => qt mv <| qt (x_lenSl rfl Tryz.underlying22 rfl) <| qt (x_conv32 Tryz.underlying25 Tryz.underlying3 rfl (by omega)) <| ?_
  refine cl T.cf13 (four13 m w0) rfl fun _ w7 ⟨b5, er, K6⟩ => ⟨_, er, ?_⟩
  have H8 := (Hp.start No w0).app' K6
  refine qt asg <| nl <| k4 _ _ <| ?_
  refine sr fun Q9 k10 => qt mv <| ?_
  refine st_e <| Ebs (cs := [.int .u8 ((k : Nat) : Int)]) (e := 5) H8 (fun _ => by kernel_rfl) fun b11 w12 H13 x14 => qt mv <| ?_
  refine st_e <| EapQ (H13.toQ eY 0 [k] rfl rfl (Nat.le_of_ble_eq_true rfl)) 0 T.sl22 rfl rfl rfl ((H13.toQ eY 0 [k] rfl rfl (Nat.le_of_ble_eq_true rfl)).srQ 1 rfl) (by omega) rfl rfl fun a15 c16 w17 H18 => qt asg <| nl <| k10 _ _ <| seqK fun Q19 kn20 kr21 ke22 => ?_
  refine sr fun Q23 k24 => qt asg <| nl <| k24 _ _ <| blockK fun Q25 kn26 kr27 kx28 kb29 => ?_
  refine loopK (α := Nat × (Option Addr) × Nat × (List Nat)) (fun x => [(0, .int .u8 ((k : Nat) : Int)), (1, .slice a m c), (5, .slice (some ⟨b5, 0, none⟩) 4 4), (6, .slice x.2.1 ((1 + 4) + x.1) x.2.2.1), (7, .int .i64 ((x.1 : Nat) : Int))]) (fun x w30 => Hp No w0 w30 [cQ 5 eY x.2.1 ((1 + 4) + x.1) x.2.2.1 x.2.2.2, cQ 5 eY (some ⟨b5, 0, none⟩) 4 4 (FP.four m)] ∧ x.1 ≤ 4 ∧ x.2.2.2 = ([k] ++ FP.four m) ++ (FP.four (4294967295 - m)).take x.1) (fun x => 4 - x.1) (0, a15, c16, ([k] ++ (FP.four m))) ⟨rfl, rfl, rfl, rfl, rfl, trivial⟩ ?_ ?_
  · refine ⟨(H18.pick [0, 1] (by decide)), ?_⟩
    try dsimp only
    exact ⟨Nat.zero_le _, by simp⟩
  · rintro τ31 ⟨i, a2, c2, ys⟩ w32 ⟨hx33, ⟨hi, hy⟩⟩
    try dsimp only at hi hy
    have hz34 := hx33.le
    intro Q35 kn36 kr37 ke38
    dsimp only at hx33 ⊢
    refine seqK fun Q39 kn40 kr41 ke42 => ?_
    refine sr fun Q43 k44 => qt mv <| qt (x_lssN (b := 4) rfl rfl) <| nl <| k44 _ _ <| cnd (p := i < 4) rfl (fun h45 => ?_) (fun h45 => ?_)
    · refine skip <| kn40 _ _ <| seqK fun Q46 kn47 kr48 ke49 => blockK fun Q50 kn51 kr52 kx53 kb54 => region <| qt mv <| qt mv <| qt mv <| qt (x_index' T.sl22 rfl ((hx33.srQ 1 rfl).addr (by omega)) rfl (by omega)) <| qt (x_load1 T.na5 rfl ((hx33.srQ 1 rfl).cell (i := i) (by omega))) <| qt (x_sub8 (a := 255) rfl rfl (by have := FP.el_four m i; omega) (by decide)) <| ?_
      refine st_e <| Ebs (cs := [.int .u8 (((255 - el (FP.four m) i) : Nat) : Int)]) (e := 5) hx33 (fun _ => by kernel_rfl) fun b55 w56 H57 x58 => ?_
      refine st_e <| EapQ (H57.toQ eY 0 [255 - el (FP.four m) i] rfl rfl (Nat.le_of_ble_eq_true rfl)) 1 T.sl22 rfl rfl rfl ((H57.toQ eY 0 [255 - el (FP.four m) i] rfl rfl (Nat.le_of_ble_eq_true rfl)).srQ 0 rfl) (by omega) rfl rfl fun a59 c60 w61 H62 => qt asg <| nl <| kn51 _ _ <| kn47 _ _ <| region <| qt mv <| qt (addN (b := 1) rfl rfl) <| qt asg <| nl <| ?_
      refine kn36 _ ((i + 1), a59, c60, (ys ++ [255 - el (FP.four m) i])) _ ⟨rfl, rfl, rfl, rfl, rfl, trivial⟩ ⟨(H62.pick [1, 2] (by decide)), ?_⟩ ?_
      · try dsimp only
        exact ⟨by omega, by rw [hy, FP.four_step (by omega) (by omega), List.append_assoc]⟩
      · (try dsimp only); omega
    · refine exit <| ke42 _ _ _ <| ke38 _ _ _ <| kb29 _ _ <| kn20 _ _ <| ?_
      refine sr fun Q63 k64 => qt mv <| qt mv <| ?_
      refine st_e <| EapQ hx33 0 T.sl22 rfl rfl rfl (hs.ext hx33.x) (by omega) rfl rfl fun a65 c66 w67 H68 => qt asg <| nl <| k64 _ _ <| ?_
      refine sr fun Q69 k70 => qt mv <| ?_
      refine st_e <| Ebs (cs := [.int .u8 ((k : Nat) : Int)]) (e := 5) H68 (fun _ => by kernel_rfl) fun b71 w72 H73 x74 => qt mv <| ?_
      refine st_e <| EapQ (H73.toQ eY 0 [k] rfl rfl (Nat.le_of_ble_eq_true rfl)) 0 T.sl22 rfl rfl rfl (hs.ext (H73.toQ eY 0 [k] rfl rfl (Nat.le_of_ble_eq_true rfl)).x) (by omega) rfl rfl fun a75 c76 w77 H78 => ?_
      refine cl T.cf8 (sum8 ([k] ++ xs) _ _ _ _ (H78.srQ 0 rfl) hb1) rfl fun _ _ ⟨er, rfl⟩ => ⟨_, er, ?_⟩
      refine qt asg <| nl <| k70 _ _ <| ?_
      refine sr fun Q80 k81 => qt mv <| qt mv <| ?_
      refine cl T.cf13 (four13 (FP.sumL ([k] ++ xs)) w77) rfl fun _ w84 ⟨b82, er, K83⟩ => ⟨_, er, ?_⟩
      have H85 := H78.app' K83
      refine st_e <| EapQ H85 2 T.sl22 rfl rfl rfl (H85.srQ 0 rfl) (by omega) rfl rfl fun a86 c87 w88 H89 => qt asg <| nl <| k81 _ _ <| ret <| leave1 (P := Tryz.prog) (fn := Tryz.f6) (t := 4) (v := .slice a86 ((((1 + 4) + i) + m) + 4) c87) rfl rfl <| ?_
      have H90 : Hp No w0 w88 [cQ 5 eY a86 ((((1 + 4) + i) + m) + 4) c87 ((ys ++ xs) ++ (FP.four (FP.sumL ([k] ++ xs))))] := (H89.pick [2] (by decide))
      have e : ((((1 + 4) + i) + m) + 4) = m + 13 := by omega
      rw [e] at H90 ⊢
      exact ⟨_, _, rfl, by unfold FP.frameL; rw [hl, ← show ys = [k] ++ FP.four m ++ FP.four (4294967295 - m) by rw [hy, List.take_of_length_le (by rw [FP.four_len]; omega)]]; exact H90⟩
end Go.Proofs.YtfejieikpnljoaaGreatDoor
namespace Go.Proofs.YtfejieikpnljoaaGreatDoor
open Go.RowKit Go.Eng Go.FP
theorem T.cf4 : CF Tryz.prog 4 := fun _ _ => by kernel_rfl
theorem T.cf5 : CF Tryz.prog 5 := fun _ _ => by kernel_rfl
theorem T.cf6 : CF Tryz.prog 6 := fun _ _ => by kernel_rfl
theorem T.cf9 : CF Tryz.prog 9 := fun _ _ => by kernel_rfl
theorem T.cf10 : CF Tryz.prog 10 := fun _ _ => by kernel_rfl
theorem T.cf11 : CF Tryz.prog 11 := fun _ _ => by kernel_rfl
theorem law3 (k : Nat) (xs : List Nat) (a : Option Addr) (m c : Nat) (w0 : World) (hs : Srm eY w0.heap a m c xs) (hk : k < 256) (hb : ∀ i, i < m → el xs i < 256) (hm : m ≤ 1048576) :
    Calls Tryz.prog 3 #[.int .u8 ((k : Nat) : Int), .slice a m c] w0 fun e w' => e = .returned (.bool true) ∧ Ext w0 w' := by
  have hc := hs.cap
  have hl : xs.length = m := hs.len
  refine enter Tryz.func3 rfl 53 Tryz.ntmps3 rfl <| ?_
  refine sr fun Q1 k2 => qt asg <| nl <| k2 _ _ <| ?_
  refine sr fun Q3 k4 => qt mv <| ?_
  refine cl T.cf4 (lent4 xs _ _ _ _ hs (by omega)) rfl fun _ w8 ⟨a5, c6, er, K7⟩ => ⟨_, er, ?_⟩
  have H9 := (Hp.start No w0).app' K7
  refine qt asg <| nl <| k4 _ _ <| ?_
  refine sr fun Q10 k11 => qt mv <| qt mv <| ?_
  refine cl T.cf5 (frame5 k xs _ _ _ _ (FP.pre (H9.srQ 0 rfl) hl) hk hb (by omega)) rfl fun _ w15 ⟨a12, c13, er, K14⟩ => ⟨_, er, ?_⟩
  have H16 := H9.app' K14
  refine qt asg <| nl <| k11 _ _ <| ?_
  refine sr fun Q17 k18 => qt mv <| qt mv <| ?_
  refine cl T.cf5 (frame5 k xs _ _ _ _ (FP.pre (H16.srQ 1 rfl) hl) hk hb (by omega)) rfl fun _ w22 ⟨a19, c20, er, K21⟩ => ⟨_, er, ?_⟩
  have H23 := H16.app' K21
  refine qt asg <| nl <| k18 _ _ <| ?_
  refine sr fun Q24 k25 => qt mv <| qt mv <| ?_
  refine cl T.cf6 (frame6 k xs _ _ _ _ (hs.ext H23.x) hk hb (by omega)) rfl fun _ w29 ⟨a26, c27, er, K28⟩ => ⟨_, er, ?_⟩
  have H30 := H23.app' K28
  refine qt asg <| nl <| k25 _ _ <| seqK fun Q31 kn32 kr33 ke34 => ?_
  refine sr fun Q35 k36 => qt mv <| qt (x_toS Tryz.underlying22 Tryz.underlying5 Tryz.underlying9 rfl (H30.srQ 2 rfl)) <| qt mv <| qt (x_toS Tryz.underlying22 Tryz.underlying5 Tryz.underlying9 rfl (H30.srQ 0 rfl)) <| qt (x_neqS rfl rfl) <| st_if (p := (sN (FP.frameL k xs)).toList ≠ (sN (FP.frameL k xs)).toList) (x_move rfl) (fun h37 => ?_) (fun h37 => ?_)
  · exact absurd h37 (fun h => h rfl)
  · refine st_gq 5 25 rfl rfl (by decide) <| qt mv <| st_gq 5 25 rfl rfl (by decide) <| ?_
    refine cl T.cf7 (sum7 xs _ _ _ _ (FP.pre (H30.srQ 3 rfl) hl) hb) rfl fun _ _ ⟨er, rfl⟩ => ⟨_, er, ?_⟩
    refine st_gq 5 25 rfl rfl (by decide) <| qt mv <| st_gq 5 25 rfl rfl (by decide) <| ?_
    refine cl T.cf8 (sum8 xs _ _ _ _ (hs.ext H30.x) hb) rfl fun _ _ ⟨er, rfl⟩ => ⟨_, er, ?_⟩
    refine st_gq 5 25 rfl rfl (by decide) <| qt (x_neqN rfl rfl) <| qt (pkF rfl) <| st_if (p := (FP.sumL xs) ≠ (FP.sumL xs)) (x_move rfl) (fun h40 => ?_) (fun h40 => ?_)
    · exact absurd h40 (fun h => h rfl)
    · refine st_gq 12 32 rfl rfl (by decide) <| qt mv <| st_gq 12 32 rfl rfl (by decide) <| qt mv <| st_gq 12 32 rfl rfl (by decide) <| ?_
      refine cl T.cf9 (left9 xs _ _ _ _ _ _ (FP.pre (H30.srQ 3 rfl) hl) (H30.srQ 3 rfl) (hs.ext H30.x) (by omega)) rfl fun _ _ ⟨er, rfl⟩ => ⟨_, er, ?_⟩
      refine st_gq 12 32 rfl rfl (by decide) <| qt (x_notB (b := true) rfl) <| qt (pkF rfl) <| nl <| k36 _ _ <| cndF rfl <| skip <| kn32 _ _ <| ?_
      refine sr fun Q42 k43 => qt mv <| ?_
      have H45 : Hp No w0 w29 ([cQ 5 eY a12 (m + 13) c13 (FP.frameL k xs)] ++ [cQ 5 eY a26 (m + 13) c27 (FP.frameL k xs), cQ 5 eY a19 (m + 13) c20 (FP.frameL k xs), cQ 5 eY a5 (m + 2) c6 (xs ++ [201, 77])]) := (H30.pick [2, 0, 1, 3] (by decide))
      refine cl T.cf10 (spoil10 _ _ _ _ _ _ H45.startL (by omega)) rfl fun _ w46 ⟨er, K44⟩ => ⟨_, er, ?_⟩
      have H47 := H45.callL K44
      refine nl <| k43 _ _ <| ?_
      refine sr fun Q48 k49 => qt mv <| qt (x_toS Tryz.underlying22 Tryz.underlying5 Tryz.underlying9 rfl (H47.srQ 1 rfl)) <| qt mv <| qt (x_toS Tryz.underlying22 Tryz.underlying5 Tryz.underlying9 rfl (H47.srQ 0 rfl)) <| qt (x_eqlS rfl rfl) <| st_if (p := (sN (FP.frameL k xs)).toList = (sN (FP.frameL k xs)).toList) (x_move rfl) (fun h50 => ?_) (fun h50 => ?_)
      · refine st_gq 5 45 rfl rfl (by decide) <| qt mv <| st_gq 5 45 rfl rfl (by decide) <| qt mv <| st_gq 5 45 rfl rfl (by decide) <| ?_
        refine cl T.cf9 (left9 xs _ _ _ _ _ _ (FP.pre (H47.srQ 2 rfl) hl) (H47.srQ 2 rfl) (hs.ext H47.x) (by omega)) rfl fun _ _ ⟨er, rfl⟩ => ⟨_, er, ?_⟩
        refine qt (pkT rfl) <| qt mv <| st_gq 10 50 rfl rfl (by decide) <| ?_
        refine cl T.cf11 (known11 _) rfl fun _ w53 ⟨er, X52⟩ => ⟨_, er, ?_⟩
        have H54 := H47.ext X52
        refine qt (pkT rfl) <| qt asg <| nl <| k49 _ _ <| ret <| leave1 (P := Tryz.prog) (fn := Tryz.f3) (t := 4) (v := .bool true) rfl rfl <| ?_
        exact ⟨rfl, H54.x⟩
      · exact absurd h50 (not_not_intro rfl)
end Go.Proofs.YtfejieikpnljoaaGreatDoor
