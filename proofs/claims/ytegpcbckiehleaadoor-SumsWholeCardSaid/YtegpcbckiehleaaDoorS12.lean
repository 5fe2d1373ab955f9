import Derived.Test.YtegpcbckiehleaaDoorS11
namespace Go.Proofs.YtegpcbckiehleaaDoor
open Go.RowKit Go.Eng Go.OrdPure Go.Flt
theorem T.cf10 : CF Tryd.prog 10 := fun _ _ => by kernel_rfl
theorem T.cf11 : CF Tryd.prog 11 := fun _ _ => by kernel_rfl

theorem one_over {x : Nat} (hx : NN x) : ∃ r, Flt.D.div 4607182418800017408 x = some r ∧ NN r := by
  have h1 : Flt.D.read 4607182418800017408 = .number false 4503599627370496 (-52) := by kernel_rfl
  unfold NN at hx
  have : ∃ r, Flt.D.div 4607182418800017408 x = some r := by
    unfold Ieee.Format.div
    rw [h1]
    cases hr : Flt.D.read x with
    | number s m p =>
      by_cases hm : m = 0
      · exact ⟨_, by simp [Ieee.Datum.quotient, hm]; rfl⟩
      · exact ⟨_, by simp [Ieee.Datum.quotient, hm]; rfl⟩
    | infinity s => exact ⟨_, by simp [Ieee.Datum.quotient]; rfl⟩
    | nan s t => rw [hr] at hx; cases hx
  obtain ⟨r, hr⟩ := this
  exact ⟨r, hr, div_NN hr⟩
set_option maxHeartbeats 4000000 in
theorem numbers3s (s : ByteArray) (x : Nat) (w0 : World) (hs : s.size ≤ maxLen) (hT : Laid w0) (hx : num s = some x) : Calls Tryd.prog 3 #[.string s] w0 fun e w' => e = .returned (.bool true) ∧ Ext w0 w' := by
  have hE0 : Below w0.heap.size w0 w0 := Below.refl _ _
  have hz0 := hE0.le
  have hNN := numL_NN hx
  refine enter Tryd.func3 rfl 39 Tryd.ntmps3 rfl ?_
  refine seqK fun Q1 kn2 kr3 ke4 => ?_
  refine region ?_
  refine st_q (v := .bool false) (x_assign rfl) ?_
  refine st_nil ?_
  refine kn2 _ _ ?_
  refine seqK fun Q5 kn6 kr7 ke8 => ?_
  refine region ?_
  refine st_q (v := .string s) (x_move rfl) ?_
  refine st_c (t_call [.string s] T.cf9 rfl rfl) (number9s s x _ hx hs (hT.below hE0)) ?_
  rintro _ w9 ⟨rfl, hx10⟩
  refine ⟨_, rfl, ?_⟩
  have hE11 : Below w0.heap.size w0 w9 := hx10.e hE0 (Nat.le_refl _)
  have hz12 := hE11.le
  have hs13 := hx10.size
  refine st_q (v := .tuple #[.float .f64 x, .bool true]) (x_move rfl) ?_
  refine st_q (v := .float .f64 x) (x_extract rfl rfl) ?_
  refine st_q (v := .bool true) (x_extract rfl rfl) ?_
  refine st_q (v := .float .f64 x) (x_assign rfl) ?_
  refine st_q (v := .bool true) (x_assign rfl) ?_
  refine st_nil ?_
  refine kn6 _ _ ?_
  refine seqK fun Q14 kn15 kr16 ke17 => ?_
  refine region ?_
  refine st_q (v := .string s) (x_move rfl) ?_
  refine st_c (t_call [.string s] T.cf10 rfl rfl) (number10s s x _ hx hs) ?_
  rintro _ w18 ⟨rfl, hx19⟩
  refine ⟨_, rfl, ?_⟩
  have hE20 : Below w0.heap.size w0 w18 := hx19.e hE11 (Nat.le_refl _)
  have hz21 := hE20.le
  have hs22 := hx19.size
  refine st_q (v := .tuple #[.float .f64 x, .bool true]) (x_move rfl) ?_
  refine st_q (v := .float .f64 x) (x_extract rfl rfl) ?_
  refine st_q (v := .bool true) (x_extract rfl rfl) ?_
  refine st_q (v := .float .f64 x) (x_assign rfl) ?_
  refine st_q (v := .bool true) (x_assign rfl) ?_
  refine st_nil ?_
  refine kn15 _ _ ?_
  refine seqK fun Q23 kn24 kr25 ke26 => ?_
  refine region ?_
  refine st_q (v := .float .f64 x) (x_move rfl) ?_
  refine st_q (v := .float .f64 x) (x_move rfl) ?_
  refine st_q (v := .bool (decide (Flt.D.order x x = some .eq))) (x_eqlF rfl rfl) ?_
  refine st_if (p := Flt.D.order x x = some .eq) (x_move rfl) (fun h27 => ?_) (fun h27 => ?_)
  ·
   refine st_gq 3 20 rfl rfl (by decide) ?_
   refine st_q (v := .bool true) (x_move rfl) ?_
   refine st_gq 3 20 rfl rfl (by decide) ?_
   refine st_q (v := .bool true) (x_move rfl) ?_
   refine st_gq 3 20 rfl rfl (by decide) ?_
   refine st_q (v := .bool (decide ((True) ↔ (True)))) (x_eqlB Tryd.underlying4 rfl rfl) ?_
   refine st_q (v := .bool (decide ((True) ↔ (True)))) (x_pickT rfl rfl) ?_
   refine st_if (p := (True) ↔ (True)) (x_move rfl) (fun h28 => ?_) (fun h28 => ?_)
   ·
    refine st_gq 8 25 rfl rfl (by decide) ?_
    refine st_q (v := .float .f64 x) (x_move rfl) ?_
    refine st_gq 8 25 rfl rfl (by decide) ?_
    refine st_q (v := .bool (decide (¬ (Flt.D.order x 0 = some .eq)))) (x_neqF rfl rfl) ?_
    refine st_gq 8 25 rfl rfl (by decide) ?_
    refine st_if (p := ¬ (Flt.D.order x 0 = some .eq)) (x_move rfl) (fun h29 => ?_) (fun h29 => ?_)
    ·
     refine st_gn 11 28 rfl rfl (by decide) rfl ?_
     refine st_gn 11 28 rfl rfl (by decide) rfl ?_
     refine st_gn 11 28 rfl rfl (by decide) rfl ?_
     refine st_gn 11 28 rfl rfl (by decide) rfl ?_
     refine st_gn 11 28 rfl rfl (by decide) rfl ?_
     refine st_gq 8 25 rfl rfl (by decide) ?_
     refine st_q (v := .bool true) (x_pickT rfl rfl) ?_
     refine st_q (v := .bool true) (x_pickT rfl rfl) ?_
     refine st_q (v := .bool true) (x_move rfl) ?_
     refine st_gq 19 36 rfl rfl (by decide) ?_
     refine st_c (t_call [] T.cf11 rfl rfl) (known11 _ (hT.below hE20)) ?_
     rintro _ w30 ⟨rfl, hx31⟩
     refine ⟨_, rfl, ?_⟩
     have hE32 : Below w0.heap.size w0 w30 := hx31.e hE20 (Nat.le_refl _)
     have hz33 := hE32.le
     have hs34 := hx31.size
     refine st_q (v := .bool true) (x_pickT rfl rfl) ?_
     refine st_q (v := .bool true) (x_assign rfl) ?_
     refine st_nil ?_
     refine kn24 _ _ ?_
     refine ret ?_
     refine leave1 (P := Tryd.prog) (fn := Tryd.f3) (t := 2) (v := .bool true) rfl rfl ?_
     exact ⟨rfl, hE32⟩
    ·
     refine st_gq 11 28 rfl rfl (by decide) ?_
     refine st_q (v := .float .f64 x) (x_move rfl) ?_
     refine st_gq 11 28 rfl rfl (by decide) ?_
     refine st_e (e_quoF (a := 4607182418800017408) (b := x) rfl rfl ?_)
     intro r35 w37 hr36 hx38
     have hE39 : Below w0.heap.size w0 w37 := hx38.e hE20 (Nat.le_refl _)
     have hz40 := hE39.le
     have hs41 := hx38.size
     refine st_gq 11 28 rfl rfl (by decide) ?_
     refine st_q (v := .float .f64 x) (x_move rfl) ?_
     refine st_gq 11 28 rfl rfl (by decide) ?_
     refine st_e (e_quoF (a := 4607182418800017408) (b := x) rfl rfl ?_)
     intro r42 w44 hr43 hx45
     have hE46 : Below w0.heap.size w0 w44 := hx45.e hE39 (Nat.le_refl _)
     have hz47 := hE46.le
     have hs48 := hx45.size
     refine st_gq 11 28 rfl rfl (by decide) ?_
     refine st_q (v := .bool (decide (Flt.D.order r35 r42 = some .eq))) (x_eqlF rfl rfl) ?_
     refine st_gq 8 25 rfl rfl (by decide) ?_
     refine st_q (v := .bool (decide (Flt.D.order r35 r42 = some .eq))) (x_pickF rfl rfl) ?_
     refine st_q (v := .bool (decide (Flt.D.order r35 r42 = some .eq))) (x_pickT rfl rfl) ?_
     refine st_if (p := Flt.D.order r35 r42 = some .eq) (x_move rfl) (fun h49 => ?_) (fun h49 => ?_)
     ·
      refine st_gq 19 36 rfl rfl (by decide) ?_
      refine st_c (t_call [] T.cf11 rfl rfl) (known11 _ (hT.below hE46)) ?_
      rintro _ w50 ⟨rfl, hx51⟩
      refine ⟨_, rfl, ?_⟩
      have hE52 : Below w0.heap.size w0 w50 := hx51.e hE46 (Nat.le_refl _)
      have hz53 := hE52.le
      have hs54 := hx51.size
      refine st_q (v := .bool true) (x_pickT rfl rfl) ?_
      refine st_q (v := .bool true) (x_assign rfl) ?_
      refine st_nil ?_
      refine kn24 _ _ ?_
      refine ret ?_
      refine leave1 (P := Tryd.prog) (fn := Tryd.f3) (t := 2) (v := .bool true) rfl rfl ?_
      exact ⟨rfl, hE52⟩
     ·
      exact absurd h49 (not_not_intro (by obtain ⟨r, hr, hn⟩ := one_over hNN; rw [hr36.eq hr, hr43.eq hr]; exact (order_self r).2 hn))
   ·
    exact absurd h28 (not_not_intro Iff.rfl)
  ·
   exact absurd h27 (not_not_intro ((order_self x).2 hNN))

set_option maxHeartbeats 4000000 in
theorem numbers3n (s : ByteArray) (w0 : World) (hs : s.size ≤ maxLen) (hT : Laid w0) (hx : num s = none) : Calls Tryd.prog 3 #[.string s] w0 fun e w' => e = .returned (.bool true) ∧ Ext w0 w' := by
  have hE0 : Below w0.heap.size w0 w0 := Below.refl _ _
  have hz0 := hE0.le
  have hNN : NN 0 := by unfold NN; kernel_rfl
  refine enter Tryd.func3 rfl 39 Tryd.ntmps3 rfl ?_
  refine seqK fun Q1 kn2 kr3 ke4 => ?_
  refine region ?_
  refine st_q (v := .bool false) (x_assign rfl) ?_
  refine st_nil ?_
  refine kn2 _ _ ?_
  refine seqK fun Q5 kn6 kr7 ke8 => ?_
  refine region ?_
  refine st_q (v := .string s) (x_move rfl) ?_
  refine st_c (t_call [.string s] T.cf9 rfl rfl) (number9n s _ hx hs (hT.below hE0)) ?_
  rintro _ w9 ⟨rfl, hx10⟩
  refine ⟨_, rfl, ?_⟩
  have hE11 : Below w0.heap.size w0 w9 := hx10.e hE0 (Nat.le_refl _)
  have hz12 := hE11.le
  have hs13 := hx10.size
  refine st_q (v := .tuple #[.float .f64 0, .bool false]) (x_move rfl) ?_
  refine st_q (v := .float .f64 0) (x_extract rfl rfl) ?_
  refine st_q (v := .bool false) (x_extract rfl rfl) ?_
  refine st_q (v := .float .f64 0) (x_assign rfl) ?_
  refine st_q (v := .bool false) (x_assign rfl) ?_
  refine st_nil ?_
  refine kn6 _ _ ?_
  refine seqK fun Q14 kn15 kr16 ke17 => ?_
  refine region ?_
  refine st_q (v := .string s) (x_move rfl) ?_
  refine st_c (t_call [.string s] T.cf10 rfl rfl) (number10n s _ hx hs) ?_
  rintro _ w18 ⟨rfl, hx19⟩
  refine ⟨_, rfl, ?_⟩
  have hE20 : Below w0.heap.size w0 w18 := hx19.e hE11 (Nat.le_refl _)
  have hz21 := hE20.le
  have hs22 := hx19.size
  refine st_q (v := .tuple #[.float .f64 0, .bool false]) (x_move rfl) ?_
  refine st_q (v := .float .f64 0) (x_extract rfl rfl) ?_
  refine st_q (v := .bool false) (x_extract rfl rfl) ?_
  refine st_q (v := .float .f64 0) (x_assign rfl) ?_
  refine st_q (v := .bool false) (x_assign rfl) ?_
  refine st_nil ?_
  refine kn15 _ _ ?_
  refine seqK fun Q23 kn24 kr25 ke26 => ?_
  refine region ?_
  refine st_q (v := .float .f64 0) (x_move rfl) ?_
  refine st_q (v := .float .f64 0) (x_move rfl) ?_
  refine st_q (v := .bool (decide (Flt.D.order 0 0 = some .eq))) (x_eqlF rfl rfl) ?_
  refine st_if (p := Flt.D.order 0 0 = some .eq) (x_move rfl) (fun h27 => ?_) (fun h27 => ?_)
  ·
   refine st_gq 3 20 rfl rfl (by decide) ?_
   refine st_q (v := .bool false) (x_move rfl) ?_
   refine st_gq 3 20 rfl rfl (by decide) ?_
   refine st_q (v := .bool false) (x_move rfl) ?_
   refine st_gq 3 20 rfl rfl (by decide) ?_
   refine st_q (v := .bool (decide ((False) ↔ (False)))) (x_eqlB Tryd.underlying4 rfl rfl) ?_
   refine st_q (v := .bool (decide ((False) ↔ (False)))) (x_pickT rfl rfl) ?_
   refine st_if (p := (False) ↔ (False)) (x_move rfl) (fun h28 => ?_) (fun h28 => ?_)
   ·
    refine st_gq 8 25 rfl rfl (by decide) ?_
    refine st_q (v := .float .f64 0) (x_move rfl) ?_
    refine st_gq 8 25 rfl rfl (by decide) ?_
    refine st_q (v := .bool (decide (¬ (Flt.D.order 0 0 = some .eq)))) (x_neqF rfl rfl) ?_
    refine st_gq 8 25 rfl rfl (by decide) ?_
    refine st_if (p := ¬ (Flt.D.order 0 0 = some .eq)) (x_move rfl) (fun h29 => ?_) (fun h29 => ?_)
    ·
     refine st_gn 11 28 rfl rfl (by decide) rfl ?_
     refine st_gn 11 28 rfl rfl (by decide) rfl ?_
     refine st_gn 11 28 rfl rfl (by decide) rfl ?_
     refine st_gn 11 28 rfl rfl (by decide) rfl ?_
     refine st_gn 11 28 rfl rfl (by decide) rfl ?_
     refine st_gq 8 25 rfl rfl (by decide) ?_
     refine st_q (v := .bool true) (x_pickT rfl rfl) ?_
     refine st_q (v := .bool true) (x_pickT rfl rfl) ?_
     refine st_q (v := .bool true) (x_move rfl) ?_
     refine st_gq 19 36 rfl rfl (by decide) ?_
     refine st_c (t_call [] T.cf11 rfl rfl) (known11 _ (hT.below hE20)) ?_
     rintro _ w30 ⟨rfl, hx31⟩
     refine ⟨_, rfl, ?_⟩
     have hE32 : Below w0.heap.size w0 w30 := hx31.e hE20 (Nat.le_refl _)
     have hz33 := hE32.le
     have hs34 := hx31.size
     refine st_q (v := .bool true) (x_pickT rfl rfl) ?_
     refine st_q (v := .bool true) (x_assign rfl) ?_
     refine st_nil ?_
     refine kn24 _ _ ?_
     refine ret ?_
     refine leave1 (P := Tryd.prog) (fn := Tryd.f3) (t := 2) (v := .bool true) rfl rfl ?_
     exact ⟨rfl, hE32⟩
    ·
     refine st_gq 11 28 rfl rfl (by decide) ?_
     refine st_q (v := .float .f64 0) (x_move rfl) ?_
     refine st_gq 11 28 rfl rfl (by decide) ?_
     refine st_e (e_quoF (a := 4607182418800017408) (b := 0) rfl rfl ?_)
     intro r35 w37 hr36 hx38
     have hE39 : Below w0.heap.size w0 w37 := hx38.e hE20 (Nat.le_refl _)
     have hz40 := hE39.le
     have hs41 := hx38.size
     refine st_gq 11 28 rfl rfl (by decide) ?_
     refine st_q (v := .float .f64 0) (x_move rfl) ?_
     refine st_gq 11 28 rfl rfl (by decide) ?_
     refine st_e (e_quoF (a := 4607182418800017408) (b := 0) rfl rfl ?_)
     intro r42 w44 hr43 hx45
     have hE46 : Below w0.heap.size w0 w44 := hx45.e hE39 (Nat.le_refl _)
     have hz47 := hE46.le
     have hs48 := hx45.size
     refine st_gq 11 28 rfl rfl (by decide) ?_
     refine st_q (v := .bool (decide (Flt.D.order r35 r42 = some .eq))) (x_eqlF rfl rfl) ?_
     refine st_gq 8 25 rfl rfl (by decide) ?_
     refine st_q (v := .bool (decide (Flt.D.order r35 r42 = some .eq))) (x_pickF rfl rfl) ?_
     refine st_q (v := .bool (decide (Flt.D.order r35 r42 = some .eq))) (x_pickT rfl rfl) ?_
     refine st_if (p := Flt.D.order r35 r42 = some .eq) (x_move rfl) (fun h49 => ?_) (fun h49 => ?_)
     ·
      refine st_gq 19 36 rfl rfl (by decide) ?_
      refine st_c (t_call [] T.cf11 rfl rfl) (known11 _ (hT.below hE46)) ?_
      rintro _ w50 ⟨rfl, hx51⟩
      refine ⟨_, rfl, ?_⟩
      have hE52 : Below w0.heap.size w0 w50 := hx51.e hE46 (Nat.le_refl _)
      have hz53 := hE52.le
      have hs54 := hx51.size
      refine st_q (v := .bool true) (x_pickT rfl rfl) ?_
      refine st_q (v := .bool true) (x_assign rfl) ?_
      refine st_nil ?_
      refine kn24 _ _ ?_
      refine ret ?_
      refine leave1 (P := Tryd.prog) (fn := Tryd.f3) (t := 2) (v := .bool true) rfl rfl ?_
      exact ⟨rfl, hE52⟩
     ·
      exact absurd h49 (not_not_intro (by obtain ⟨r, hr, hn⟩ := one_over hNN; rw [hr36.eq hr, hr43.eq hr]; exact (order_self r).2 hn))
   ·
    exact absurd h28 (not_not_intro Iff.rfl)
  ·
   exact absurd h27 (not_not_intro ((order_self 0).2 hNN))

theorem numbers3 (s : ByteArray) (w0 : World) (hs : s.size ≤ maxLen) (hT : Laid w0) : Calls Tryd.prog 3 #[.string s] w0 fun e w' => e = .returned (.bool true) ∧ Ext w0 w' := by
  cases hx : num s with
  | none => exact numbers3n s w0 hs hT hx
  | some x => exact numbers3s s x w0 hs hT hx
end Go.Proofs.YtegpcbckiehleaaDoor
