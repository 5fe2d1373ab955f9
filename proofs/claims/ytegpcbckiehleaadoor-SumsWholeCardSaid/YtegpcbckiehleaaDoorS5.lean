import Derived.Test.YtegpcbckiehleaaDoorS4
import Derived.Test.YtegpcbckiehleaaDoorSOp2
namespace Go.Proofs.YtegpcbckiehleaaDoor
open Go.RowKit Go.Eng Go.OrdPure Go.Flt
theorem T.cf54 : CF Tryd.prog 54 := fun _ _ => by kernel_rfl
theorem T.cf43 : CF Tryd.prog 43 := fun _ _ => by kernel_rfl
theorem T.cf69 : CF Tryd.prog 69 := fun _ _ => by kernel_rfl
theorem T.cf67 : CF Tryd.prog 67 := fun _ _ => by kernel_rfl
theorem T.cf9 : CF Tryd.prog 9 := fun _ _ => by kernel_rfl
theorem T.cf44 : CF Tryd.prog 44 := fun _ _ => by kernel_rfl

theorem number9s (s : ByteArray) (x : Nat) (w0 : World) (h : num s = some x) (hs : s.size ≤ maxLen) (hT : Laid w0) : Calls Tryd.prog 9 #[.string s] w0 fun e w' => e = .returned (.tuple #[.float .f64 x, .bool true]) ∧ Ext w0 w' := by
  have := number9 s w0 hs hT
  unfold num at h
  rw [h] at this; exact this
theorem number9n (s : ByteArray) (w0 : World) (h : num s = none) (hs : s.size ≤ maxLen) (hT : Laid w0) : Calls Tryd.prog 9 #[.string s] w0 fun e w' => e = .returned (.tuple #[.float .f64 0, .bool false]) ∧ Ext w0 w' := by
  have := number9 s w0 hs hT
  unfold num at h
  rw [h] at this; exact this
theorem number10s (s : ByteArray) (x : Nat) (w0 : World) (h : num s = some x) (hs : s.size ≤ maxLen) : Calls Tryd.prog 10 #[.string s] w0 fun e w' => e = .returned (.tuple #[.float .f64 x, .bool true]) ∧ Ext w0 w' := by
  have := number10 s w0 hs
  unfold num at h
  rw [h] at this; exact this
theorem number10n (s : ByteArray) (w0 : World) (h : num s = none) (hs : s.size ≤ maxLen) : Calls Tryd.prog 10 #[.string s] w0 fun e w' => e = .returned (.tuple #[.float .f64 0, .bool false]) ∧ Ext w0 w' := by
  have := number10 s w0 hs
  unfold num at h
  rw [h] at this; exact this
def GR (w0 : World) (x : Row) : Prop := Src w0.heap (.slice x.1.1 x.2.length x.1.2) x.2.length 1 (flat enS x.2)
theorem cmpR54 (w0 : World) (x y : Row) (w : World) (hx : GR w0 x) (hy : GR w0 y) (hb : Below w0.heap.size w0 w) : Calls Tryd.prog 54 #[.slice x.1.1 x.2.length x.1.2, .slice y.1.1 y.2.length y.1.2] w fun e w' => e = .returned (.int .i64 (tups x.2 y.2)) ∧ Ext w w' := tuples54 x.2 y.2 _ _ w (hx.below hb) (hy.below hb)
set_option maxHeartbeats 4000000 in
theorem set51 (pr : ByteArray) (ar : Int) (L : List Row) (va : Value) (w0 : World) (ha : Src w0.heap va L.length 1 (flat enR L)) (hL : RowsP w0.heap L) (hn : L.length ≤ 5864062014805) : Calls Tryd.prog 51 #[.agg #[.string pr, .int .i64 ar, va]] w0 fun e w' => ∃ v R, e = .returned v ∧ Ext w0 w' ∧ Own w'.heap w0.heap.size 42 1 v R.length (flat enR R) ∧ tp R = setL (tp L) ∧ ∀ x ∈ R, x ∈ L := by
  have hE0 : Below w0.heap.size w0 w0 := Below.refl _ _
  have hz0 := hE0.le
  obtain ⟨a, ca, rfl, hca, hca1⟩ := ha.form
  refine enter Tryd.func51 rfl 6 Tryd.ntmps51 rfl ?_
  refine seqK fun Q1 kn2 kr3 ke4 => ?_
  refine region ?_
  refine st_e (e_box (v := .agg #[.string pr, .int .i64 ar, .slice a L.length ca]) rfl ?_)
  intro w5 hA6
  have hx7 := hA6.ext
  have hs8 := hA6.size
  have hB9 : Blk w5.heap w0.heap.size [.string pr, .int .i64 ar, .slice a L.length ca] 29 := hA6.new
  have hE10 : Below w0.heap.size w0 w5 := hx7.e hE0 (Nat.le_refl _)
  have hz11 := hE10.le
  have hs12 := hx7.size
  refine st_q (v := .slice none 0 0) (x_assign rfl) ?_
  refine st_nil ?_
  refine kn2 _ _ ?_
  refine seqK fun Q13 kn14 kr15 ke16 => ?_
  refine region ?_
  refine st_q (v := .pointer (some ⟨w0.heap.size, 2, none⟩)) (x_field (o := 0) T.fa29_2 rfl) ?_
  refine st_q (v := .slice a L.length ca) (x_load1 T.na27 rfl (hB9.one 2 rfl)) ?_
  refine st_c (t_call [.slice a L.length ca, .func (.func 54) #[] #[]] T.cf69 rfl rfl) (set69 54 (fun a b => tups a.2 b.2) T.cf54 (tups_law.on fun x : Row => x.2) (.func (.func 54) #[] #[]) (toldF74 54) (GR w5) L (hL.below hE10) _ _ (cmpR54 _) (ha.below hE10) (by omega)) ?_
  rintro _ w17 ⟨v20, rfl, hx18, hO19⟩
  refine ⟨_, rfl, ?_⟩
  have hB21 := hB9.ext hx18
  have hE22 : Below w0.heap.size w0 w17 := hx18.e hE10 (Nat.le_refl _)
  have hz23 := hE22.le
  have hs24 := hx18.size
  have hO25 := hO19.weak (lo' := w0.heap.size) (by omega)
  obtain ⟨a26, c27, rfl, hm28, hm29⟩ := hO25.src.form
  refine st_q (v := .slice a26 ((ddL (fun a b : Row => tups a.2 b.2) (srt (fun a b : Row => tups a.2 b.2) L)).length) c27) (x_assign rfl) ?_
  refine st_nil ?_
  refine kn14 _ _ ?_
  refine ret ?_
  refine leave1 (P := Tryd.prog) (fn := Tryd.f51) (t := 2) (v := .slice a26 ((ddL (fun a b : Row => tups a.2 b.2) (srt (fun a b : Row => tups a.2 b.2) L)).length) c27) rfl rfl ?_
  exact ⟨_, _, rfl, hE22, hO25, tp_set L, fun x hx => (srt_mem _ _).1 (ddL_mem _ x hx)⟩

set_option maxHeartbeats 4000000 in
theorem isnan67 (x : Nat) (w0 : World) (hx : NN x) : Calls Tryd.prog 67 #[.float .f64 x] w0 fun e w' => e = .returned (.bool false) ∧ w0 = w' := by
  refine enter Tryd.func67 rfl 6 Tryd.ntmps67 rfl ?_
  refine seqK fun Q1 kn2 kr3 ke4 => ?_
  refine region ?_
  refine st_q (v := .bool false) (x_assign rfl) ?_
  refine st_nil ?_
  refine kn2 _ _ ?_
  refine seqK fun Q5 kn6 kr7 ke8 => ?_
  refine region ?_
  refine st_q (v := .float .f64 x) (x_move rfl) ?_
  refine st_q (v := .float .f64 x) (x_move rfl) ?_
  refine st_q (v := .bool (decide (¬ (Flt.D.order x x = some .eq)))) (x_neqF rfl rfl) ?_
  refine st_q (v := .bool (decide (¬ (Flt.D.order x x = some .eq)))) (x_assign rfl) ?_
  refine st_nil ?_
  refine kn6 _ _ ?_
  refine ret ?_
  refine leave1 (P := Tryd.prog) (fn := Tryd.f67) (t := 2) (v := .bool (decide (¬ (Flt.D.order x x = some .eq)))) rfl rfl ?_
  exact ⟨by rw [decide_eq_false (by rw [(order_self x).2 hx]; simp)], rfl⟩

set_option maxHeartbeats 4000000 in
theorem compare44 (x y : Nat) (w0 : World) (hx : NN x) (hy : NN y) : Calls Tryd.prog 44 #[.float .f64 x, .float .f64 y] w0 fun e w' => e = .returned (.int .i64 (cmpF x y)) ∧ w0 = w' := by
  refine enter Tryd.func44 rfl 20 Tryd.ntmps44 rfl ?_
  refine seqK fun Q1 kn2 kr3 ke4 => ?_
  refine region ?_
  refine st_q (v := .int .i64 ((0 : Nat) : Int)) (x_assign rfl) ?_
  refine st_nil ?_
  refine kn2 _ _ ?_
  refine seqK fun Q5 kn6 kr7 ke8 => ?_
  refine region ?_
  refine st_q (v := .float .f64 x) (x_move rfl) ?_
  refine st_c (t_call [.float .f64 x] T.cf67 rfl rfl) (isnan67 x _ hx) ?_
  rintro _ _ ⟨rfl, rfl⟩
  refine ⟨_, rfl, ?_⟩
  refine st_q (v := .bool false) (x_assign rfl) ?_
  refine st_nil ?_
  refine kn6 _ _ ?_
  refine seqK fun Q9 kn10 kr11 ke12 => ?_
  refine region ?_
  refine st_q (v := .float .f64 y) (x_move rfl) ?_
  refine st_c (t_call [.float .f64 y] T.cf67 rfl rfl) (isnan67 y _ hy) ?_
  rintro _ _ ⟨rfl, rfl⟩
  refine ⟨_, rfl, ?_⟩
  refine st_q (v := .bool false) (x_assign rfl) ?_
  refine st_nil ?_
  refine kn10 _ _ ?_
  refine seqK fun Q13 kn14 kr15 ke16 => ?_
  refine seqK fun Q17 kn18 kr19 ke20 => ?_
  refine region ?_
  refine st_q (v := .bool false) (x_move rfl) ?_
  refine st_nil ?_
  refine kn18 _ _ ?_
  refine cndF rfl ?_
  refine skip ?_
  refine kn14 _ _ ?_
  refine seqK fun Q21 kn22 kr23 ke24 => ?_
  refine seqK fun Q25 kn26 kr27 ke28 => ?_
  refine region ?_
  refine st_q (v := .bool false) (x_move rfl) ?_
  refine st_nil ?_
  refine kn26 _ _ ?_
  refine cndF rfl ?_
  refine skip ?_
  refine kn22 _ _ ?_
  refine seqK fun Q29 kn30 kr31 ke32 => ?_
  refine seqK fun Q33 kn34 kr35 ke36 => ?_
  refine region ?_
  refine st_q (v := .float .f64 x) (x_move rfl) ?_
  refine st_q (v := .float .f64 y) (x_move rfl) ?_
  refine st_q (v := .bool (decide (Flt.D.order x y = some .lt))) (x_lssF rfl rfl) ?_
  refine st_nil ?_
  refine kn34 _ _ ?_
  refine cnd (p := Flt.D.order x y = some .lt) rfl (fun h37 => ?_) (fun h37 => ?_)
  ·
   refine seqK fun Q38 kn39 kr40 ke41 => ?_
   refine region ?_
   refine st_q (v := .int .i64 (-1)) (x_assign rfl) ?_
   refine st_nil ?_
   refine kn39 _ _ ?_
   refine ret ?_
   refine kr31 _ _ ?_
   refine leave1 (P := Tryd.prog) (fn := Tryd.f44) (t := 4) (v := .int .i64 (-1)) rfl rfl ?_
   exact ⟨by unfold cmpF; simp [*], rfl⟩
  ·
   refine skip ?_
   refine kn30 _ _ ?_
   refine seqK fun Q42 kn43 kr44 ke45 => ?_
   refine seqK fun Q46 kn47 kr48 ke49 => ?_
   refine region ?_
   refine st_q (v := .float .f64 x) (x_move rfl) ?_
   refine st_q (v := .float .f64 y) (x_move rfl) ?_
   refine st_q (v := .bool (decide (Flt.D.order x y = some .gt))) (x_gtrF rfl rfl) ?_
   refine st_nil ?_
   refine kn47 _ _ ?_
   refine cnd (p := Flt.D.order x y = some .gt) rfl (fun h50 => ?_) (fun h50 => ?_)
   ·
    refine seqK fun Q51 kn52 kr53 ke54 => ?_
    refine region ?_
    refine st_q (v := .int .i64 ((1 : Nat) : Int)) (x_assign rfl) ?_
    refine st_nil ?_
    refine kn52 _ _ ?_
    refine ret ?_
    refine kr44 _ _ ?_
    refine leave1 (P := Tryd.prog) (fn := Tryd.f44) (t := 4) (v := .int .i64 ((1 : Nat) : Int)) rfl rfl ?_
    exact ⟨by unfold cmpF; simp [*], rfl⟩
   ·
    refine skip ?_
    refine kn43 _ _ ?_
    refine seqK fun Q55 kn56 kr57 ke58 => ?_
    refine region ?_
    refine st_q (v := .int .i64 ((0 : Nat) : Int)) (x_assign rfl) ?_
    refine st_nil ?_
    refine kn56 _ _ ?_
    refine ret ?_
    refine leave1 (P := Tryd.prog) (fn := Tryd.f44) (t := 4) (v := .int .i64 ((0 : Nat) : Int)) rfl rfl ?_
    exact ⟨by unfold cmpF; simp [*], rfl⟩

set_option maxHeartbeats 4000000 in
theorem rank43ss (a b : ByteArray) (x : Nat) (y : Nat) (w0 : World) (ha : num a = some x) (hb : num b = some y) (hsa : a.size ≤ maxLen) (hsb : b.size ≤ maxLen) (hT : Laid w0) : Calls Tryd.prog 43 #[.string a, .string b] w0 fun e w' => e = .returned (.int .i64 (rc0 a b)) ∧ Ext w0 w' := by
  have hE0 : Below w0.heap.size w0 w0 := Below.refl _ _
  have hz0 := hE0.le
  refine enter Tryd.func43 rfl 37 Tryd.ntmps43 rfl ?_
  refine seqK fun Q1 kn2 kr3 ke4 => ?_
  refine region ?_
  refine st_q (v := .int .i64 ((0 : Nat) : Int)) (x_assign rfl) ?_
  refine st_nil ?_
  refine kn2 _ _ ?_
  refine seqK fun Q5 kn6 kr7 ke8 => ?_
  refine region ?_
  refine st_q (v := .string a) (x_move rfl) ?_
  refine st_c (t_call [.string a] T.cf9 rfl rfl) (number9s a x _ ha hsa (hT.below hE0)) ?_
  rintro _ w9 ⟨rfl, hx10⟩
  refine ⟨_, rfl, ?_⟩
  have hE11 : Below w0.heap.size w0 w9 := hx10.e hE0 (Nat.le_refl _)
  have hz12 := hE11.le
  have hs13 := hx10.size
  refine st_q (v := .tuple #[.float .f64 x, .bool true]) (x_move rfl) ?_
  refine st_q (v := .float .f64 x) (x_extract rfl rfl) ?_
  refine st_q (v := .bool true) (x_extract rfl rfl) ?_
  refine st_q (v := .float .f64 x) (x_assign rfl) ?_
  refine st_q (v := .bool true) (x_assign rfl) ?_
  refine st_nil ?_
  refine kn6 _ _ ?_
  refine seqK fun Q14 kn15 kr16 ke17 => ?_
  refine region ?_
  refine st_q (v := .string b) (x_move rfl) ?_
  refine st_c (t_call [.string b] T.cf9 rfl rfl) (number9s b y _ hb hsb (hT.below hE11)) ?_
  rintro _ w18 ⟨rfl, hx19⟩
  refine ⟨_, rfl, ?_⟩
  have hE20 : Below w0.heap.size w0 w18 := hx19.e hE11 (Nat.le_refl _)
  have hz21 := hE20.le
  have hs22 := hx19.size
  refine st_q (v := .tuple #[.float .f64 y, .bool true]) (x_move rfl) ?_
  refine st_q (v := .float .f64 y) (x_extract rfl rfl) ?_
  refine st_q (v := .bool true) (x_extract rfl rfl) ?_
  refine st_q (v := .float .f64 y) (x_assign rfl) ?_
  refine st_q (v := .bool true) (x_assign rfl) ?_
  refine st_nil ?_
  refine kn15 _ _ ?_
  refine seqK fun Q23 kn24 kr25 ke26 => ?_
  refine blockK fun Q27 kn28 kr29 kx30 kb31 => ?_
  refine seqK fun Q32 kn33 kr34 ke35 => ?_
  refine region ?_
  refine st_q (v := .bool true) (x_move rfl) ?_
  refine st_q (v := .bool true) (x_move rfl) ?_
  refine st_q (v := .bool (decide (¬ ((True) ↔ (True))))) (x_neqB Tryd.underlying4 rfl rfl) ?_
  refine st_q (v := .bool (decide (¬ ((True) ↔ (True))))) (x_assign rfl) ?_
  refine st_nil ?_
  refine kn33 _ _ ?_
  refine cnd (p := ¬ ((True) ↔ (True))) rfl (fun h36 => ?_) (fun h36 => ?_)
  ·
   exact absurd h36 (by decide)
  ·
   refine seqK fun Q37 kn38 kr39 ke40 => ?_
   refine region ?_
   refine st_q (v := .bool true) (x_move rfl) ?_
   refine st_q (v := .bool true) (x_move rfl) ?_
   refine st_gq 1 26 rfl rfl (by decide) ?_
   refine st_q (v := .float .f64 x) (x_move rfl) ?_
   refine st_gq 1 26 rfl rfl (by decide) ?_
   refine st_q (v := .float .f64 y) (x_move rfl) ?_
   refine st_gq 1 26 rfl rfl (by decide) ?_
   refine st_q (v := .bool (decide (¬ (Flt.D.order x y = some .eq)))) (x_neqF rfl rfl) ?_
   refine st_q (v := .bool (decide (¬ (Flt.D.order x y = some .eq)))) (x_pickT rfl rfl) ?_
   refine st_q (v := .bool (decide (¬ (Flt.D.order x y = some .eq)))) (x_assign rfl) ?_
   refine st_nil ?_
   refine kn38 _ _ ?_
   refine cnd (p := ¬ (Flt.D.order x y = some .eq)) rfl (fun h41 => ?_) (fun h41 => ?_)
   ·
    refine seqK fun Q42 kn43 kr44 ke45 => ?_
    refine region ?_
    refine st_q (v := .float .f64 x) (x_move rfl) ?_
    refine st_q (v := .float .f64 y) (x_move rfl) ?_
    refine st_c (t_call [.float .f64 x, .float .f64 y] T.cf44 rfl rfl) (compare44 x y _ (numL_NN ha) (numL_NN hb)) ?_
    rintro _ _ ⟨rfl, rfl⟩
    refine ⟨_, rfl, ?_⟩
    refine st_q (v := .int .i64 ((cmpF x y))) (x_assign rfl) ?_
    refine st_nil ?_
    refine kn43 _ _ ?_
    refine ret ?_
    refine kr29 _ _ ?_
    refine kr25 _ _ ?_
    refine leave1 (P := Tryd.prog) (fn := Tryd.f43) (t := 4) (v := .int .i64 ((cmpF x y))) rfl rfl ?_
    first | exact ⟨by rw [rc_some ha hb, if_pos (by assumption)], hE20⟩ | exact ⟨by rw [rc_some ha hb, if_neg (by assumption)], hE20⟩ | exact ⟨by rw [rc_some ha hb, if_pos (Decidable.of_not_not (by assumption))], hE20⟩
   ·
    refine skip ?_
    refine kn28 _ _ ?_
    refine kn24 _ _ ?_
    refine seqK fun Q46 kn47 kr48 ke49 => ?_
    refine region ?_
    refine st_q (v := .string a) (x_move rfl) ?_
    refine st_q (v := .string b) (x_move rfl) ?_
    refine st_c (t_call [.string a, .string b] T.cf45 rfl rfl) (texts45 a b _) ?_
    rintro _ _ ⟨rfl, rfl⟩
    refine ⟨_, rfl, ?_⟩
    refine st_q (v := .int .i64 ((txt a b))) (x_assign rfl) ?_
    refine st_nil ?_
    refine kn47 _ _ ?_
    refine ret ?_
    refine leave1 (P := Tryd.prog) (fn := Tryd.f43) (t := 4) (v := .int .i64 ((txt a b))) rfl rfl ?_
    first | exact ⟨by rw [rc_some ha hb, if_pos (by assumption)], hE20⟩ | exact ⟨by rw [rc_some ha hb, if_neg (by assumption)], hE20⟩ | exact ⟨by rw [rc_some ha hb, if_pos (Decidable.of_not_not (by assumption))], hE20⟩

set_option maxHeartbeats 4000000 in
theorem rank43sn (a b : ByteArray) (x : Nat) (w0 : World) (ha : num a = some x) (hb : num b = none) (hsa : a.size ≤ maxLen) (hsb : b.size ≤ maxLen) (hT : Laid w0) : Calls Tryd.prog 43 #[.string a, .string b] w0 fun e w' => e = .returned (.int .i64 (rc0 a b)) ∧ Ext w0 w' := by
  have hE0 : Below w0.heap.size w0 w0 := Below.refl _ _
  have hz0 := hE0.le
  refine enter Tryd.func43 rfl 37 Tryd.ntmps43 rfl ?_
  refine seqK fun Q1 kn2 kr3 ke4 => ?_
  refine region ?_
  refine st_q (v := .int .i64 ((0 : Nat) : Int)) (x_assign rfl) ?_
  refine st_nil ?_
  refine kn2 _ _ ?_
  refine seqK fun Q5 kn6 kr7 ke8 => ?_
  refine region ?_
  refine st_q (v := .string a) (x_move rfl) ?_
  refine st_c (t_call [.string a] T.cf9 rfl rfl) (number9s a x _ ha hsa (hT.below hE0)) ?_
  rintro _ w9 ⟨rfl, hx10⟩
  refine ⟨_, rfl, ?_⟩
  have hE11 : Below w0.heap.size w0 w9 := hx10.e hE0 (Nat.le_refl _)
  have hz12 := hE11.le
  have hs13 := hx10.size
  refine st_q (v := .tuple #[.float .f64 x, .bool true]) (x_move rfl) ?_
  refine st_q (v := .float .f64 x) (x_extract rfl rfl) ?_
  refine st_q (v := .bool true) (x_extract rfl rfl) ?_
  refine st_q (v := .float .f64 x) (x_assign rfl) ?_
  refine st_q (v := .bool true) (x_assign rfl) ?_
  refine st_nil ?_
  refine kn6 _ _ ?_
  refine seqK fun Q14 kn15 kr16 ke17 => ?_
  refine region ?_
  refine st_q (v := .string b) (x_move rfl) ?_
  refine st_c (t_call [.string b] T.cf9 rfl rfl) (number9n b _ hb hsb (hT.below hE11)) ?_
  rintro _ w18 ⟨rfl, hx19⟩
  refine ⟨_, rfl, ?_⟩
  have hE20 : Below w0.heap.size w0 w18 := hx19.e hE11 (Nat.le_refl _)
  have hz21 := hE20.le
  have hs22 := hx19.size
  refine st_q (v := .tuple #[.float .f64 0, .bool false]) (x_move rfl) ?_
  refine st_q (v := .float .f64 0) (x_extract rfl rfl) ?_
  refine st_q (v := .bool false) (x_extract rfl rfl) ?_
  refine st_q (v := .float .f64 0) (x_assign rfl) ?_
  refine st_q (v := .bool false) (x_assign rfl) ?_
  refine st_nil ?_
  refine kn15 _ _ ?_
  refine seqK fun Q23 kn24 kr25 ke26 => ?_
  refine blockK fun Q27 kn28 kr29 kx30 kb31 => ?_
  refine seqK fun Q32 kn33 kr34 ke35 => ?_
  refine region ?_
  refine st_q (v := .bool true) (x_move rfl) ?_
  refine st_q (v := .bool false) (x_move rfl) ?_
  refine st_q (v := .bool (decide (¬ ((True) ↔ (False))))) (x_neqB Tryd.underlying4 rfl rfl) ?_
  refine st_q (v := .bool (decide (¬ ((True) ↔ (False))))) (x_assign rfl) ?_
  refine st_nil ?_
  refine kn33 _ _ ?_
  refine cnd (p := ¬ ((True) ↔ (False))) rfl (fun h36 => ?_) (fun h36 => ?_)
  ·
   refine seqK fun Q37 kn38 kr39 ke40 => ?_
   refine seqK fun Q41 kn42 kr43 ke44 => ?_
   refine region ?_
   refine st_q (v := .bool true) (x_move rfl) ?_
   refine st_nil ?_
   refine kn42 _ _ ?_
   refine cndT rfl ?_
   refine seqK fun Q45 kn46 kr47 ke48 => ?_
   refine region ?_
   refine st_q (v := .int .i64 (-1)) (x_assign rfl) ?_
   refine st_nil ?_
   refine kn46 _ _ ?_
   refine ret ?_
   refine kr39 _ _ ?_
   refine kr29 _ _ ?_
   refine kr25 _ _ ?_
   refine leave1 (P := Tryd.prog) (fn := Tryd.f43) (t := 4) (v := .int .i64 (-1)) rfl rfl ?_
   exact ⟨congrArg (fun z : Int => Ending.returned (.int .i64 z)) (rc_sn ha hb).symm, hE20⟩
  ·
   exact absurd h36 (not_not_intro (by decide))

set_option maxHeartbeats 4000000 in
theorem rank43ns (a b : ByteArray) (y : Nat) (w0 : World) (ha : num a = none) (hb : num b = some y) (hsa : a.size ≤ maxLen) (hsb : b.size ≤ maxLen) (hT : Laid w0) : Calls Tryd.prog 43 #[.string a, .string b] w0 fun e w' => e = .returned (.int .i64 (rc0 a b)) ∧ Ext w0 w' := by
  have hE0 : Below w0.heap.size w0 w0 := Below.refl _ _
  have hz0 := hE0.le
  refine enter Tryd.func43 rfl 37 Tryd.ntmps43 rfl ?_
  refine seqK fun Q1 kn2 kr3 ke4 => ?_
  refine region ?_
  refine st_q (v := .int .i64 ((0 : Nat) : Int)) (x_assign rfl) ?_
  refine st_nil ?_
  refine kn2 _ _ ?_
  refine seqK fun Q5 kn6 kr7 ke8 => ?_
  refine region ?_
  refine st_q (v := .string a) (x_move rfl) ?_
  refine st_c (t_call [.string a] T.cf9 rfl rfl) (number9n a _ ha hsa (hT.below hE0)) ?_
  rintro _ w9 ⟨rfl, hx10⟩
  refine ⟨_, rfl, ?_⟩
  have hE11 : Below w0.heap.size w0 w9 := hx10.e hE0 (Nat.le_refl _)
  have hz12 := hE11.le
  have hs13 := hx10.size
  refine st_q (v := .tuple #[.float .f64 0, .bool false]) (x_move rfl) ?_
  refine st_q (v := .float .f64 0) (x_extract rfl rfl) ?_
  refine st_q (v := .bool false) (x_extract rfl rfl) ?_
  refine st_q (v := .float .f64 0) (x_assign rfl) ?_
  refine st_q (v := .bool false) (x_assign rfl) ?_
  refine st_nil ?_
  refine kn6 _ _ ?_
  refine seqK fun Q14 kn15 kr16 ke17 => ?_
  refine region ?_
  refine st_q (v := .string b) (x_move rfl) ?_
  refine st_c (t_call [.string b] T.cf9 rfl rfl) (number9s b y _ hb hsb (hT.below hE11)) ?_
  rintro _ w18 ⟨rfl, hx19⟩
  refine ⟨_, rfl, ?_⟩
  have hE20 : Below w0.heap.size w0 w18 := hx19.e hE11 (Nat.le_refl _)
  have hz21 := hE20.le
  have hs22 := hx19.size
  refine st_q (v := .tuple #[.float .f64 y, .bool true]) (x_move rfl) ?_
  refine st_q (v := .float .f64 y) (x_extract rfl rfl) ?_
  refine st_q (v := .bool true) (x_extract rfl rfl) ?_
  refine st_q (v := .float .f64 y) (x_assign rfl) ?_
  refine st_q (v := .bool true) (x_assign rfl) ?_
  refine st_nil ?_
  refine kn15 _ _ ?_
  refine seqK fun Q23 kn24 kr25 ke26 => ?_
  refine blockK fun Q27 kn28 kr29 kx30 kb31 => ?_
  refine seqK fun Q32 kn33 kr34 ke35 => ?_
  refine region ?_
  refine st_q (v := .bool false) (x_move rfl) ?_
  refine st_q (v := .bool true) (x_move rfl) ?_
  refine st_q (v := .bool (decide (¬ ((False) ↔ (True))))) (x_neqB Tryd.underlying4 rfl rfl) ?_
  refine st_q (v := .bool (decide (¬ ((False) ↔ (True))))) (x_assign rfl) ?_
  refine st_nil ?_
  refine kn33 _ _ ?_
  refine cnd (p := ¬ ((False) ↔ (True))) rfl (fun h36 => ?_) (fun h36 => ?_)
  ·
   refine seqK fun Q37 kn38 kr39 ke40 => ?_
   refine seqK fun Q41 kn42 kr43 ke44 => ?_
   refine region ?_
   refine st_q (v := .bool false) (x_move rfl) ?_
   refine st_nil ?_
   refine kn42 _ _ ?_
   refine cndF rfl ?_
   refine skip ?_
   refine kn38 _ _ ?_
   refine seqK fun Q45 kn46 kr47 ke48 => ?_
   refine region ?_
   refine st_q (v := .int .i64 ((1 : Nat) : Int)) (x_assign rfl) ?_
   refine st_nil ?_
   refine kn46 _ _ ?_
   refine ret ?_
   refine kr29 _ _ ?_
   refine kr25 _ _ ?_
   refine leave1 (P := Tryd.prog) (fn := Tryd.f43) (t := 4) (v := .int .i64 ((1 : Nat) : Int)) rfl rfl ?_
   exact ⟨congrArg (fun z : Int => Ending.returned (.int .i64 z)) (rc_ns ha hb).symm, hE20⟩
  ·
   exact absurd h36 (not_not_intro (by decide))

set_option maxHeartbeats 4000000 in
theorem rank43nn (a b : ByteArray) (w0 : World) (ha : num a = none) (hb : num b = none) (hsa : a.size ≤ maxLen) (hsb : b.size ≤ maxLen) (hT : Laid w0) : Calls Tryd.prog 43 #[.string a, .string b] w0 fun e w' => e = .returned (.int .i64 (rc0 a b)) ∧ Ext w0 w' := by
  have hE0 : Below w0.heap.size w0 w0 := Below.refl _ _
  have hz0 := hE0.le
  refine enter Tryd.func43 rfl 37 Tryd.ntmps43 rfl ?_
  refine seqK fun Q1 kn2 kr3 ke4 => ?_
  refine region ?_
  refine st_q (v := .int .i64 ((0 : Nat) : Int)) (x_assign rfl) ?_
  refine st_nil ?_
  refine kn2 _ _ ?_
  refine seqK fun Q5 kn6 kr7 ke8 => ?_
  refine region ?_
  refine st_q (v := .string a) (x_move rfl) ?_
  refine st_c (t_call [.string a] T.cf9 rfl rfl) (number9n a _ ha hsa (hT.below hE0)) ?_
  rintro _ w9 ⟨rfl, hx10⟩
  refine ⟨_, rfl, ?_⟩
  have hE11 : Below w0.heap.size w0 w9 := hx10.e hE0 (Nat.le_refl _)
  have hz12 := hE11.le
  have hs13 := hx10.size
  refine st_q (v := .tuple #[.float .f64 0, .bool false]) (x_move rfl) ?_
  refine st_q (v := .float .f64 0) (x_extract rfl rfl) ?_
  refine st_q (v := .bool false) (x_extract rfl rfl) ?_
  refine st_q (v := .float .f64 0) (x_assign rfl) ?_
  refine st_q (v := .bool false) (x_assign rfl) ?_
  refine st_nil ?_
  refine kn6 _ _ ?_
  refine seqK fun Q14 kn15 kr16 ke17 => ?_
  refine region ?_
  refine st_q (v := .string b) (x_move rfl) ?_
  refine st_c (t_call [.string b] T.cf9 rfl rfl) (number9n b _ hb hsb (hT.below hE11)) ?_
  rintro _ w18 ⟨rfl, hx19⟩
  refine ⟨_, rfl, ?_⟩
  have hE20 : Below w0.heap.size w0 w18 := hx19.e hE11 (Nat.le_refl _)
  have hz21 := hE20.le
  have hs22 := hx19.size
  refine st_q (v := .tuple #[.float .f64 0, .bool false]) (x_move rfl) ?_
  refine st_q (v := .float .f64 0) (x_extract rfl rfl) ?_
  refine st_q (v := .bool false) (x_extract rfl rfl) ?_
  refine st_q (v := .float .f64 0) (x_assign rfl) ?_
  refine st_q (v := .bool false) (x_assign rfl) ?_
  refine st_nil ?_
  refine kn15 _ _ ?_
  refine seqK fun Q23 kn24 kr25 ke26 => ?_
  refine blockK fun Q27 kn28 kr29 kx30 kb31 => ?_
  refine seqK fun Q32 kn33 kr34 ke35 => ?_
  refine region ?_
  refine st_q (v := .bool false) (x_move rfl) ?_
  refine st_q (v := .bool false) (x_move rfl) ?_
  refine st_q (v := .bool (decide (¬ ((False) ↔ (False))))) (x_neqB Tryd.underlying4 rfl rfl) ?_
  refine st_q (v := .bool (decide (¬ ((False) ↔ (False))))) (x_assign rfl) ?_
  refine st_nil ?_
  refine kn33 _ _ ?_
  refine cnd (p := ¬ ((False) ↔ (False))) rfl (fun h36 => ?_) (fun h36 => ?_)
  ·
   exact absurd h36 (by decide)
  ·
   refine seqK fun Q37 kn38 kr39 ke40 => ?_
   refine region ?_
   refine st_q (v := .bool false) (x_move rfl) ?_
   refine st_q (v := .bool false) (x_move rfl) ?_
   refine st_gn 1 26 rfl rfl (by decide) rfl ?_
   refine st_gn 1 26 rfl rfl (by decide) rfl ?_
   refine st_gn 1 26 rfl rfl (by decide) rfl ?_
   refine st_q (v := .bool false) (x_pickF rfl rfl) ?_
   refine st_q (v := .bool false) (x_assign rfl) ?_
   refine st_nil ?_
   refine kn38 _ _ ?_
   refine cndF rfl ?_
   refine skip ?_
   refine kn28 _ _ ?_
   refine kn24 _ _ ?_
   refine seqK fun Q41 kn42 kr43 ke44 => ?_
   refine region ?_
   refine st_q (v := .string a) (x_move rfl) ?_
   refine st_q (v := .string b) (x_move rfl) ?_
   refine st_c (t_call [.string a, .string b] T.cf45 rfl rfl) (texts45 a b _) ?_
   rintro _ _ ⟨rfl, rfl⟩
   refine ⟨_, rfl, ?_⟩
   refine st_q (v := .int .i64 ((txt a b))) (x_assign rfl) ?_
   refine st_nil ?_
   refine kn42 _ _ ?_
   refine ret ?_
   refine leave1 (P := Tryd.prog) (fn := Tryd.f43) (t := 4) (v := .int .i64 ((txt a b))) rfl rfl ?_
   exact ⟨congrArg (fun z : Int => Ending.returned (.int .i64 z)) (rc_nn ha hb).symm, hE20⟩

theorem rank43 (w0 : World) (hT : Laid w0) (a b : ByteArray) (w : World) (hsa : a.size ≤ maxLen) (hsb : b.size ≤ maxLen) (hb : Below w0.heap.size w0 w) : Calls Tryd.prog 43 #[.string a, .string b] w fun e w' => e = .returned (.int .i64 (rc0 a b)) ∧ Ext w w' := by
  cases ha : num a with
  | none =>
    cases hb' : num b with
    | none => exact rank43nn a b w ha hb' hsa hsb (hT.below hb)
    | some y => exact rank43ns a b y w ha hb' hsa hsb (hT.below hb)
  | some x =>
    cases hb' : num b with
    | none => exact rank43sn a b x w ha hb' hsa hsb (hT.below hb)
    | some y => exact rank43ss a b x y w ha hb' hsa hsb (hT.below hb)
end Go.Proofs.YtegpcbckiehleaaDoor
