import Derived.Test.YtgfolockecjlnaaWorks
namespace Go.Proofs.Ytgfolockecjlnaa
open Go.RowKit Go.Eng Go.OrdPure Go.HeapPure
theorem T.cf10 : CF Try.prog 10 := fun _ _ => by kernel_rfl
theorem T.cf12 : CF Try.prog 12 := fun _ _ => by kernel_rfl
theorem T.cf13 : CF Try.prog 13 := fun _ _ => by kernel_rfl
theorem T.cf16 : CF Try.prog 16 := fun _ _ => by kernel_rfl

theorem bl_irr (x : List UInt8) : Op.bytesLess x x = false := by
  induction x with
  | nil => rfl
  | cons a x ih => simp [Op.bytesLess, ih]
theorem bl_trans : ∀ x y z : List UInt8, Op.bytesLess x y = true → Op.bytesLess y z = true → Op.bytesLess x z = true
  | _, _, [], _, h2 => by cases ‹List UInt8› <;> simp [Op.bytesLess] at h2
  | [], _, _ :: _, _, _ => rfl
  | a :: x, [], _ :: _, h1, _ => by simp [Op.bytesLess] at h1
  | a :: x, b :: y, d :: z, h1, h2 => by
    simp only [Op.bytesLess, Bool.or_eq_true, decide_eq_true_eq, Bool.and_eq_true, beq_iff_eq, UInt8.lt_iff_toNat_lt] at h1 h2 ⊢
    rcases h1 with h1 | ⟨rfl, h1⟩
    · rcases h2 with h2 | ⟨rfl, h2⟩
      · exact .inl (by omega)
      · exact .inl h1
    · rcases h2 with h2 | ⟨rfl, h2⟩
      · exact .inl h2
      · exact .inr ⟨rfl, bl_trans x y z h1 h2⟩
theorem bl_tri : ∀ x y : List UInt8, Op.bytesLess x y = false → Op.bytesLess y x = false → x = y
  | [], [], _, _ => rfl
  | [], _ :: _, h, _ => by simp [Op.bytesLess] at h
  | _ :: _, [], _, h => by simp [Op.bytesLess] at h
  | a :: x, b :: y, h1, h2 => by
    simp only [Op.bytesLess, Bool.or_eq_false_iff, decide_eq_false_iff_not, Bool.and_eq_false_iff, beq_eq_false_iff_ne, UInt8.lt_iff_toNat_lt] at h1 h2
    have hab : a = b := by apply UInt8.toNat_inj.1; omega
    subst hab
    rw [bl_tri x y (h1.2.resolve_left (fun h => h rfl)) (h2.2.resolve_left (fun h => h rfl))]
theorem txt_cases (a b : ByteArray) : (Op.bytesLess a.toList b.toList = true ∧ txt a b = -1) ∨ (a = b ∧ txt a b = 0) ∨ (Op.bytesLess b.toList a.toList = true ∧ txt a b = 1) := by
  unfold txt
  by_cases h : Op.bytesLess a.toList b.toList = true
  · exact .inl ⟨h, if_pos h⟩
  · rw [if_neg h]
    have h' : Op.bytesLess a.toList b.toList = false := by simpa using h
    by_cases h2 : Op.bytesLess b.toList a.toList = true
    · refine .inr (.inr ⟨h2, if_pos ?_⟩)
      have hne : ¬ a.toList = b.toList := fun e => by rw [e, bl_irr] at h2; cases h2
      simp [h', hne]
    · have e := bl_tri _ _ h' (by simpa using h2)
      exact .inr (.inl ⟨bytes_ext e, if_neg (by simp [e])⟩)
theorem txt_anti (a b : ByteArray) : txt b a = - txt a b := by
  rcases txt_cases a b with ⟨h1, h2⟩ | ⟨h1, h2⟩ | ⟨h1, h2⟩ <;> rcases txt_cases b a with ⟨k1, k2⟩ | ⟨k1, k2⟩ | ⟨k1, k2⟩ <;> rw [h2, k2] <;> try omega
  · have := bl_trans _ _ _ h1 k1; rw [bl_irr] at this; cases this
  · subst k1; rw [bl_irr] at h1; cases h1
  · subst h1; rw [bl_irr] at k1; cases k1
  · subst h1; rw [bl_irr] at k1; cases k1
  · subst k1; rw [bl_irr] at h1; cases h1
  · have := bl_trans _ _ _ h1 k1; rw [bl_irr] at this; cases this
theorem txt_range (a b : ByteArray) : -1 ≤ txt a b ∧ txt a b ≤ 1 := by rcases txt_cases a b with ⟨_, h2⟩ | ⟨_, h2⟩ | ⟨_, h2⟩ <;> omega
theorem txt_zero {a b : ByteArray} (h : txt a b = 0) : a = b := by rcases txt_cases a b with ⟨_, h2⟩ | ⟨h1, _⟩ | ⟨_, h2⟩ <;> first | exact h1 | omega
theorem txt_lt {a b : ByteArray} (h : txt a b < 0) : Op.bytesLess a.toList b.toList = true := by rcases txt_cases a b with ⟨h1, _⟩ | ⟨_, h2⟩ | ⟨_, h2⟩ <;> first | exact h1 | omega
theorem txt_neg {a b : ByteArray} (h : Op.bytesLess a.toList b.toList = true) : txt a b = -1 := if_pos h
theorem tups_range : ∀ l m : List ByteArray, -1 ≤ tups l m ∧ tups l m ≤ 1
  | [], [] => by simp [tups]
  | [], _ :: _ => by simp [tups]
  | _ :: _, [] => by simp [tups]
  | a :: l, b :: m => by
    simp only [tups]
    split
    · exact tups_range l m
    · exact txt_range a b
theorem tups_anti : ∀ l m : List ByteArray, tups m l = - tups l m
  | [], [] => by simp [tups]
  | [], _ :: _ => by simp [tups]
  | _ :: _, [] => by simp [tups]
  | a :: l, b :: m => by
    simp only [tups]
    rw [txt_anti a b]
    by_cases h : txt a b = 0
    · rw [if_pos h, if_pos (by omega)]; exact tups_anti l m
    · rw [if_neg h, if_neg (by omega)]
theorem tups_trans : ∀ l m n : List ByteArray, tups l m ≤ 0 → tups m n ≤ 0 → tups l n ≤ 0
  | [], _, [], _, _ => by simp [tups]
  | [], _, _ :: _, _, _ => by simp [tups]
  | _ :: _, [], _, h, _ => by simp [tups] at h
  | _ :: _, _ :: _, [], _, h => by simp [tups] at h
  | a :: l, b :: m, d :: n, h1, h2 => by
    simp only [tups] at h1 h2 ⊢
    by_cases e1 : txt a b = 0
    · obtain rfl := txt_zero e1
      rw [if_pos e1] at h1
      by_cases e2 : txt a d = 0
      · rw [if_pos e2] at h2 ⊢
        exact tups_trans l m n h1 h2
      · rw [if_neg e2] at h2 ⊢
        exact h2
    · rw [if_neg e1] at h1
      have hab : Op.bytesLess a.toList b.toList = true := txt_lt (by omega)
      have had : Op.bytesLess a.toList d.toList = true := by
        by_cases e2 : txt b d = 0
        · obtain rfl := txt_zero e2
          exact hab
        · rw [if_neg e2] at h2
          exact bl_trans _ _ _ hab (txt_lt (by omega))
      have := txt_neg had
      split
      · omega
      · omega
theorem lend_src {h : Array Obj} {lo : Nat} {xs : List ByteArray} {a : Option Addr} {c : Nat} (ho : Own h lo 9 1 (.slice a (xs.length + 3) c) (xs.length + 3) (flat enS (xs ++ roomS 3))) : Src h (.slice a xs.length c) xs.length 1 (flat enS xs) := by
  have := ho.src.take enS_len (j := xs.length) (by omega) (by simp)
  simpa using this
set_option maxHeartbeats 4000000 in
theorem ordertexts3 (xs ys zs : List ByteArray) (va vb vc : Value) (w0 : World) (ha : Src w0.heap va xs.length 1 (flat enS xs)) (hb : Src w0.heap vb ys.length 1 (flat enS ys)) (hc : Src w0.heap vc zs.length 1 (flat enS zs)) (hna : xs.length ≤ 8796093021952) (hnb : ys.length ≤ 8796093021952) : Calls Try.prog 3 #[va, vb, vc] w0 fun e w' => e = .returned (.bool true) ∧ Ext w0 w' := by
  have hE0 : Below w0.heap.size w0 w0 := Below.refl _ _
  have hz0 := hE0.le
  obtain ⟨a, ca, rfl, hca, hca1⟩ := ha.form
  obtain ⟨b, cb, rfl, hcb, hcb1⟩ := hb.form
  obtain ⟨c, cc, rfl, hcc, hcc1⟩ := hc.form
  have ht1 := tups_range xs ys
  have ht2 := tups_anti xs ys
  have ht3 := tups_trans xs ys zs
  refine enter Try.func3 rfl 91 Try.ntmps3 rfl ?_
  refine seqK fun Q1 kn2 kr3 ke4 => ?_
  refine region ?_
  refine st_q (v := .bool false) (x_assign rfl) ?_
  refine st_nil ?_
  refine kn2 _ _ ?_
  refine seqK fun Q5 kn6 kr7 ke8 => ?_
  refine region ?_
  refine st_q (v := .slice a xs.length ca) (x_move rfl) ?_
  refine st_c (t_call [.slice a xs.length ca] T.cf10 rfl rfl) (lendtexts xs _ _ (ha.below hE0) (by omega)) ?_
  rintro _ w9 ⟨la, cla, rfl, hx10, _, hO11, _⟩
  refine ⟨_, rfl, ?_⟩
  have hE12 : Below w0.heap.size w0 w9 := hx10.e hE0 (Nat.le_refl _)
  have hz13 := hE12.le
  have hs14 := hx10.size
  refine st_q (v := .slice la xs.length cla) (x_assign rfl) ?_
  refine st_nil ?_
  refine kn6 _ _ ?_
  refine seqK fun Q15 kn16 kr17 ke18 => ?_
  refine region ?_
  refine st_q (v := .slice b ys.length cb) (x_move rfl) ?_
  refine st_c (t_call [.slice b ys.length cb] T.cf10 rfl rfl) (lendtexts ys _ _ (hb.below hE12) (by omega)) ?_
  rintro _ w19 ⟨lb, clb, rfl, hx20, _, hO21, _⟩
  refine ⟨_, rfl, ?_⟩
  have hF22 := hO11.ext hx20
  have hE23 : Below w0.heap.size w0 w19 := hx20.e hE12 (Nat.le_refl _)
  have hz24 := hE23.le
  have hs25 := hx20.size
  refine st_q (v := .slice lb ys.length clb) (x_assign rfl) ?_
  refine st_nil ?_
  refine kn16 _ _ ?_
  refine seqK fun Q26 kn27 kr28 ke29 => ?_
  refine seqK fun Q30 kn31 kr32 ke33 => ?_
  refine region ?_
  refine st_q (v := .slice la xs.length cla) (x_move rfl) ?_
  refine st_q (v := .slice lb ys.length clb) (x_move rfl) ?_
  refine st_c (t_call [.slice la xs.length cla, .slice lb ys.length clb] T.cf11 rfl rfl) (tuples11 xs ys _ _ _ (lend_src hF22) (lend_src hO21)) ?_
  rintro _ w34 ⟨rfl, hx35⟩
  refine ⟨_, rfl, ?_⟩
  have hF36 := hF22.ext hx35
  have hF37 := hO21.ext hx35
  have hE38 : Below w0.heap.size w0 w34 := hx35.e hE23 (Nat.le_refl _)
  have hz39 := hE38.le
  have hs40 := hx35.size
  refine st_q (v := .slice a xs.length ca) (x_move rfl) ?_
  refine st_q (v := .slice b ys.length cb) (x_move rfl) ?_
  refine st_c (t_call [.slice a xs.length ca, .slice b ys.length cb] T.cf12 rfl rfl) (tuples12 xs ys _ _ _ (ha.below hE38) (hb.below hE38)) ?_
  rintro _ w41 ⟨rfl, hx42⟩
  refine ⟨_, rfl, ?_⟩
  have hF43 := hF36.ext hx42
  have hF44 := hF37.ext hx42
  have hE45 : Below w0.heap.size w0 w41 := hx42.e hE38 (Nat.le_refl _)
  have hz46 := hE45.le
  have hs47 := hx42.size
  refine st_q (v := .bool (decide ((tups xs ys) ≠ (tups xs ys)))) (x_neq rfl rfl) ?_
  refine st_if (p := (tups xs ys) ≠ (tups xs ys)) (x_move rfl) (fun h48 => ?_) (fun h48 => ?_)
  ·
    exact absurd h48 (by omega)
  ·
    refine st_gq 7 21 rfl rfl (by decide) ?_
    refine st_q (v := .slice lb ys.length clb) (x_move rfl) ?_
    refine st_gq 7 21 rfl rfl (by decide) ?_
    refine st_q (v := .slice la xs.length cla) (x_move rfl) ?_
    refine st_gq 7 21 rfl rfl (by decide) ?_
    refine st_c (t_call [.slice lb ys.length clb, .slice la xs.length cla] T.cf11 rfl rfl) (tuples11 ys xs _ _ _ (lend_src hF44) (lend_src hF43)) ?_
    rintro _ w49 ⟨rfl, hx50⟩
    refine ⟨_, rfl, ?_⟩
    have hF51 := hF43.ext hx50
    have hF52 := hF44.ext hx50
    have hE53 : Below w0.heap.size w0 w49 := hx50.e hE45 (Nat.le_refl _)
    have hz54 := hE53.le
    have hs55 := hx50.size
    refine st_gq 7 21 rfl rfl (by decide) ?_
    refine st_q (v := .slice la xs.length cla) (x_move rfl) ?_
    refine st_gq 7 21 rfl rfl (by decide) ?_
    refine st_q (v := .slice lb ys.length clb) (x_move rfl) ?_
    refine st_gq 7 21 rfl rfl (by decide) ?_
    refine st_c (t_call [.slice la xs.length cla, .slice lb ys.length clb] T.cf11 rfl rfl) (tuples11 xs ys _ _ _ (lend_src hF51) (lend_src hF52)) ?_
    rintro _ w56 ⟨rfl, hx57⟩
    refine ⟨_, rfl, ?_⟩
    have hF58 := hF51.ext hx57
    have hF59 := hF52.ext hx57
    have hE60 : Below w0.heap.size w0 w56 := hx57.e hE53 (Nat.le_refl _)
    have hz61 := hE60.le
    have hs62 := hx57.size
    refine st_gq 7 21 rfl rfl (by decide) ?_
    refine st_q (v := .int .i64 ((-(tups xs ys)))) (x_neg rfl ⟨by omega, by omega⟩) ?_
    refine st_gq 7 21 rfl rfl (by decide) ?_
    refine st_q (v := .bool (decide ((tups ys xs) ≠ ((-(tups xs ys)))))) (x_neq rfl rfl) ?_
    refine st_q (v := .bool (decide ((tups ys xs) ≠ ((-(tups xs ys)))))) (x_pickF rfl rfl) ?_
    refine st_if (p := (tups ys xs) ≠ ((-(tups xs ys)))) (x_move rfl) (fun h63 => ?_) (fun h63 => ?_)
    ·
      exact absurd h63 (by omega)
    ·
      refine st_gq 17 31 rfl rfl (by decide) ?_
      refine st_q (v := .slice la xs.length cla) (x_move rfl) ?_
      refine st_gq 17 31 rfl rfl (by decide) ?_
      refine st_q (v := .slice a xs.length ca) (x_move rfl) ?_
      refine st_gq 17 31 rfl rfl (by decide) ?_
      refine st_c (t_call [.slice la xs.length cla, .slice a xs.length ca] T.cf13 rfl rfl) (kepttexts xs _ _ _ _ hF58.src (ha.below hE60) (by omega)) ?_
      rintro _ w64 ⟨rfl, hx65⟩
      refine ⟨_, rfl, ?_⟩
      have hF66 := hF58.ext hx65
      have hF67 := hF59.ext hx65
      have hE68 : Below w0.heap.size w0 w64 := hx65.e hE60 (Nat.le_refl _)
      have hz69 := hE68.le
      have hs70 := hx65.size
      refine st_gq 17 31 rfl rfl (by decide) ?_
      refine st_q (v := .bool false) (x_notB (b := true) rfl) ?_
      refine st_q (v := .bool false) (x_pickF rfl rfl) ?_
      refine st_q (v := .bool false) (x_move rfl) ?_
      refine st_gq 23 37 rfl rfl (by decide) ?_
      refine st_q (v := .slice lb ys.length clb) (x_move rfl) ?_
      refine st_gq 23 37 rfl rfl (by decide) ?_
      refine st_q (v := .slice b ys.length cb) (x_move rfl) ?_
      refine st_gq 23 37 rfl rfl (by decide) ?_
      refine st_c (t_call [.slice lb ys.length clb, .slice b ys.length cb] T.cf13 rfl rfl) (kepttexts ys _ _ _ _ hF67.src (hb.below hE68) (by omega)) ?_
      rintro _ w71 ⟨rfl, hx72⟩
      refine ⟨_, rfl, ?_⟩
      have hF73 := hF66.ext hx72
      have hF74 := hF67.ext hx72
      have hE75 : Below w0.heap.size w0 w71 := hx72.e hE68 (Nat.le_refl _)
      have hz76 := hE75.le
      have hs77 := hx72.size
      refine st_gq 23 37 rfl rfl (by decide) ?_
      refine st_q (v := .bool false) (x_notB (b := true) rfl) ?_
      refine st_q (v := .bool false) (x_pickF rfl rfl) ?_
      refine st_nil ?_
      refine kn31 _ _ ?_
      refine cndF rfl ?_
      refine skip ?_
      refine kn27 _ _ ?_
      refine seqK fun Q78 kn79 kr80 ke81 => ?_
      refine seqK fun Q82 kn83 kr84 ke85 => ?_
      refine region ?_
      refine st_q (v := .slice a xs.length ca) (x_move rfl) ?_
      refine st_q (v := .slice b ys.length cb) (x_move rfl) ?_
      refine st_c (t_call [.slice a xs.length ca, .slice b ys.length cb] T.cf11 rfl rfl) (tuples11 xs ys _ _ _ (ha.below hE75) (hb.below hE75)) ?_
      rintro _ w86 ⟨rfl, hx87⟩
      refine ⟨_, rfl, ?_⟩
      have hF88 := hF73.ext hx87
      have hF89 := hF74.ext hx87
      have hE90 : Below w0.heap.size w0 w86 := hx87.e hE75 (Nat.le_refl _)
      have hz91 := hE90.le
      have hs92 := hx87.size
      refine st_q (v := .bool (decide ((tups xs ys) ≤ 0))) (x_leq rfl rfl) ?_
      refine st_if (p := (tups xs ys) ≤ 0) (x_move rfl) (fun h93 => ?_) (fun h93 => ?_)
      ·
        refine st_gq 4 47 rfl rfl (by decide) ?_
        refine st_q (v := .slice b ys.length cb) (x_move rfl) ?_
        refine st_gq 4 47 rfl rfl (by decide) ?_
        refine st_q (v := .slice c zs.length cc) (x_move rfl) ?_
        refine st_gq 4 47 rfl rfl (by decide) ?_
        refine st_c (t_call [.slice b ys.length cb, .slice c zs.length cc] T.cf11 rfl rfl) (tuples11 ys zs _ _ _ (hb.below hE90) (hc.below hE90)) ?_
        rintro _ w94 ⟨rfl, hx95⟩
        refine ⟨_, rfl, ?_⟩
        have hF96 := hF88.ext hx95
        have hF97 := hF89.ext hx95
        have hE98 : Below w0.heap.size w0 w94 := hx95.e hE90 (Nat.le_refl _)
        have hz99 := hE98.le
        have hs100 := hx95.size
        refine st_gq 4 47 rfl rfl (by decide) ?_
        refine st_q (v := .bool (decide ((tups ys zs) ≤ 0))) (x_leq rfl rfl) ?_
        refine st_q (v := .bool (decide ((tups ys zs) ≤ 0))) (x_pickT rfl rfl) ?_
        refine st_if (p := (tups ys zs) ≤ 0) (x_move rfl) (fun h101 => ?_) (fun h101 => ?_)
        ·
          refine st_gq 10 53 rfl rfl (by decide) ?_
          refine st_q (v := .slice a xs.length ca) (x_move rfl) ?_
          refine st_gq 10 53 rfl rfl (by decide) ?_
          refine st_q (v := .slice c zs.length cc) (x_move rfl) ?_
          refine st_gq 10 53 rfl rfl (by decide) ?_
          refine st_c (t_call [.slice a xs.length ca, .slice c zs.length cc] T.cf11 rfl rfl) (tuples11 xs zs _ _ _ (ha.below hE98) (hc.below hE98)) ?_
          rintro _ w102 ⟨rfl, hx103⟩
          refine ⟨_, rfl, ?_⟩
          have hF104 := hF96.ext hx103
          have hF105 := hF97.ext hx103
          have hE106 : Below w0.heap.size w0 w102 := hx103.e hE98 (Nat.le_refl _)
          have hz107 := hE106.le
          have hs108 := hx103.size
          refine st_gq 10 53 rfl rfl (by decide) ?_
          refine st_q (v := .bool (decide (0 < (tups xs zs)))) (x_gtr rfl rfl) ?_
          refine st_q (v := .bool (decide (0 < (tups xs zs)))) (x_pickT rfl rfl) ?_
          refine st_nil ?_
          refine kn83 _ _ ?_
          refine cnd (p := 0 < (tups xs zs)) rfl (fun h109 => ?_) (fun h109 => ?_)
          ·
            exact absurd h109 (by omega)
          ·
            refine skip ?_
            refine kn79 _ _ ?_
            refine seqK fun Q110 kn111 kr112 ke113 => ?_
            refine seqK fun Q114 kn115 kr116 ke117 => ?_
            refine region ?_
            refine st_q (v := .int .i64 ((0 : Nat) : Int)) (x_assign rfl) ?_
            refine st_nil ?_
            refine kn115 _ _ ?_
            refine blockK fun Q118 kn119 kr120 kx121 kb122 => ?_
            refine loopK (α := Nat) (fun x => [(0, .slice a xs.length ca), (1, .slice b ys.length cb), (9, .int .i64 ((x : Nat) : Int))]) (fun x w123 => Ext w102 w123 ∧ x ≤ xs.length) (fun x => xs.length - x) (0) ⟨rfl, rfl, rfl, trivial⟩ ?_ ?_
            ·
              refine ⟨Below.refl _ _, ?_⟩
              try dsimp only
              exact Nat.zero_le _
            ·
              rintro τ124 i w125 ⟨hx126, hi⟩
              try dsimp only at hi
              have hF127 := hF104.ext hx126
              have hF128 := hF105.ext hx126
              have hE129 : Below w0.heap.size w0 w125 := hx126.e hE106 (Nat.le_refl _)
              have hz130 := hE129.le
              have hs131 := hx126.size
              intro Q132 kn133 kr134 ke135
              refine seqK fun Q136 kn137 kr138 ke139 => ?_
              refine seqK fun Q140 kn141 kr142 ke143 => ?_
              refine region ?_
              refine st_q (v := .int .i64 ((i : Nat) : Int)) (x_move rfl) ?_
              refine st_q (v := .slice a xs.length ca) (x_move rfl) ?_
              refine st_q (v := .int .i64 ((xs.length : Nat) : Int)) (x_lenSl rfl Try.underlying22 rfl) ?_
              refine st_q (v := .bool (decide (i < xs.length))) (x_lssN rfl rfl) ?_
              refine st_if (p := i < xs.length) (x_move rfl) (fun h144 => ?_) (fun h144 => ?_)
              ·
                refine st_gq 4 63 rfl rfl (by decide) ?_
                refine st_q (v := .int .i64 ((i : Nat) : Int)) (x_move rfl) ?_
                refine st_gq 4 63 rfl rfl (by decide) ?_
                refine st_q (v := .slice b ys.length cb) (x_move rfl) ?_
                refine st_gq 4 63 rfl rfl (by decide) ?_
                refine st_q (v := .int .i64 ((ys.length : Nat) : Int)) (x_lenSl rfl Try.underlying22 rfl) ?_
                refine st_gq 4 63 rfl rfl (by decide) ?_
                refine st_q (v := .bool (decide (i < ys.length))) (x_lssN rfl rfl) ?_
                refine st_q (v := .bool (decide (i < ys.length))) (x_pickT rfl rfl) ?_
                refine st_nil ?_
                refine kn141 _ _ ?_
                refine cnd (p := i < ys.length) rfl (fun h145 => ?_) (fun h145 => ?_)
                ·
                  refine skip ?_
                  refine kn137 _ _ ?_
                  refine seqK fun Q146 kn147 kr148 ke149 => ?_
                  refine blockK fun Q150 kn151 kr152 kx153 kb154 => ?_
                  refine seqK fun Q155 kn156 kr157 ke158 => ?_
                  refine regionD1 [3, 7, 12, 16] [0, 1, 2, 3, 4, 5, 6, 7, 9, 10, 11, 12, 13, 14, 15, 16, 18] (.one 0 (.one 1 (.one 2 (.one 3 (.one 4 (.one 5 (.one 6 (.one 7 (.one 9 (.one 10 (.one 11 (.one 12 (.one 13 (.one 14 (.one 15 (.one 16 (.one 8 (.one 17 (.one 18 .done))))))))))))))))))) (by kernel_rfl) (by kernel_rfl) ?_
                  intro w159 hx160 hs161
                  have hF162 := hF127.ext hx160
                  have hF163 := hF128.ext hx160
                  have hF164 := hx160.e hx126 (Nat.le_refl _)
                  have hE165 : Below w0.heap.size w0 w159 := hx160.e hE129 (Nat.le_refl _)
                  have hz166 := hE165.le
                  have hs167 := hx160.size
                  have hS168 : Ext w159 w159 := Below.refl _ _
                  refine d_q (v := .slice a xs.length ca) rfl rfl (fun _ => x_move rfl) ?_
                  refine d_q (v := .int .i64 ((i : Nat) : Int)) rfl rfl (fun _ => x_move rfl) ?_
                  obtain ⟨b169, o170, ha171, hc172⟩ := ha.at (by omega)
                  refine d_q (v := .pointer (some ⟨b169, o170 + i * 1, none⟩)) rfl rfl (fun _ => x_index' T.sl22 rfl ha171 rfl (by omega)) ?_
                  refine d_l (v := .string (el xs i)) rfl rfl rfl (fun v174 hw173 => x_load1 T.na9 rfl (((hc172.below hE165).elem enS_len (i := i) (by omega)).ext hw173)) ?_
                  refine d_q (v := .slice b ys.length cb) rfl rfl (fun _ => x_move rfl) ?_
                  refine d_q (v := .int .i64 ((i : Nat) : Int)) rfl rfl (fun _ => x_move rfl) ?_
                  obtain ⟨b175, o176, ha177, hc178⟩ := hb.at (by omega)
                  refine d_q (v := .pointer (some ⟨b175, o176 + i * 1, none⟩)) rfl rfl (fun _ => x_index' T.sl22 rfl ha177 rfl (by omega)) ?_
                  refine d_l (v := .string (el ys i)) rfl rfl rfl (fun v180 hw179 => x_load1 T.na9 rfl (((hc178.below hE165).elem enS_len (i := i) (by omega)).ext hw179)) ?_
                  refine d_q (v := .slice a xs.length ca) rfl rfl (fun _ => x_move rfl) ?_
                  refine d_q (v := .int .i64 ((i : Nat) : Int)) rfl rfl (fun _ => x_move rfl) ?_
                  refine d_q (v := .pointer (some ⟨b169, o170 + i * 1, none⟩)) rfl rfl (fun _ => x_index' T.sl22 rfl ha171 rfl (by omega)) ?_
                  refine d_l (v := .string (el xs i)) rfl rfl rfl (fun v182 hw181 => x_load1 T.na9 rfl (((hc172.below hE165).elem enS_len (i := i) (by omega)).ext hw181)) ?_
                  refine d_q (v := .slice b ys.length cb) rfl rfl (fun _ => x_move rfl) ?_
                  refine d_q (v := .int .i64 ((i : Nat) : Int)) rfl rfl (fun _ => x_move rfl) ?_
                  refine d_q (v := .pointer (some ⟨b175, o176 + i * 1, none⟩)) rfl rfl (fun _ => x_index' T.sl22 rfl ha177 rfl (by omega)) ?_
                  refine d_l (v := .string (el ys i)) rfl rfl rfl (fun v184 hw183 => x_load1 T.na9 rfl (((hc178.below hE165).elem enS_len (i := i) (by omega)).ext hw183)) ?_
                  refine d_e (by decide) (d_c' rfl rfl (t_call [.string (el xs i), .string (el ys i)] T.cf14 rfl rfl) (texts14 (el xs i) (el ys i) _) ?_)
                  rintro _ _ ⟨rfl, rfl⟩
                  refine ⟨_, rfl, ?_⟩
                  have hS185 := hS168
                  refine ⟨fun _ => hS185, ?_⟩
                  refine d_e (by decide) (d_c' rfl rfl (t_call [.string (el xs i), .string (el ys i)] T.cf15 rfl rfl) (texts15 (el xs i) (el ys i) _) ?_)
                  rintro _ _ ⟨rfl, rfl⟩
                  refine ⟨_, rfl, ?_⟩
                  have hS186 := hS185
                  refine ⟨fun _ => hS186, ?_⟩
                  refine d_q (v := .bool (decide ((txt (el xs i) (el ys i)) ≠ (txt (el xs i) (el ys i))))) rfl rfl (fun _ => x_neq rfl rfl) ?_
                  refine d_done ?_
                  refine kn156 _ _ ?_
                  refine cnd (p := (txt (el xs i) (el ys i)) ≠ (txt (el xs i) (el ys i))) rfl (fun h187 => ?_) (fun h187 => ?_)
                  ·
                    exact absurd h187 (by omega)
                  ·
                    refine skip ?_
                    refine kn151 _ _ ?_
                    refine kn147 _ _ ?_
                    refine region ?_
                    refine st_q (v := .int .i64 ((i : Nat) : Int)) (x_move rfl) ?_
                    refine st_q (v := .int .i64 (((i + 1) : Nat) : Int)) (x_addN rfl rfl (by omega)) ?_
                    refine st_q (v := .int .i64 (((i + 1) : Nat) : Int)) (x_assign rfl) ?_
                    refine st_nil ?_
                    refine kn133 _ ((i + 1)) _ ⟨rfl, rfl, rfl, trivial⟩ ⟨hF164, ?_⟩ ?_
                    ·
                      try dsimp only
                      omega
                    ·
                      (try dsimp only); omega
                ·
                  refine exit ?_
                  refine ke139 _ _ _ ?_
                  refine ke135 _ _ _ ?_
                  refine kb122 _ _ ?_
                  refine kn111 _ _ ?_
                  refine seqK fun Q188 kn189 kr190 ke191 => ?_
                  refine region ?_
                  refine st_c (t_call [] T.cf16 rfl rfl) (works16 _) ?_
                  rintro _ w192 ⟨rfl, hx193⟩
                  refine ⟨_, rfl, ?_⟩
                  have hF194 := hF127.ext hx193
                  have hF195 := hF128.ext hx193
                  have hF196 := hx193.e hx126 (Nat.le_refl _)
                  have hE197 : Below w0.heap.size w0 w192 := hx193.e hE129 (Nat.le_refl _)
                  have hz198 := hE197.le
                  have hs199 := hx193.size
                  refine st_q (v := .bool true) (x_assign rfl) ?_
                  refine st_nil ?_
                  refine kn189 _ _ ?_
                  refine ret ?_
                  refine leave1 (P := Try.prog) (fn := Try.f3) (t := 6) (v := .bool true) rfl rfl ?_
                  exact ⟨rfl, hE197⟩
              ·
                refine st_gn 4 63 rfl rfl (by decide) rfl ?_
                refine st_gn 4 63 rfl rfl (by decide) rfl ?_
                refine st_gn 4 63 rfl rfl (by decide) rfl ?_
                refine st_gn 4 63 rfl rfl (by decide) rfl ?_
                refine st_q (v := .bool false) (x_pickF rfl rfl) ?_
                refine st_nil ?_
                refine kn141 _ _ ?_
                refine cndF rfl ?_
                refine exit ?_
                refine ke139 _ _ _ ?_
                refine ke135 _ _ _ ?_
                refine kb122 _ _ ?_
                refine kn111 _ _ ?_
                refine seqK fun Q200 kn201 kr202 ke203 => ?_
                refine region ?_
                refine st_c (t_call [] T.cf16 rfl rfl) (works16 _) ?_
                rintro _ w204 ⟨rfl, hx205⟩
                refine ⟨_, rfl, ?_⟩
                have hF206 := hF127.ext hx205
                have hF207 := hF128.ext hx205
                have hF208 := hx205.e hx126 (Nat.le_refl _)
                have hE209 : Below w0.heap.size w0 w204 := hx205.e hE129 (Nat.le_refl _)
                have hz210 := hE209.le
                have hs211 := hx205.size
                refine st_q (v := .bool true) (x_assign rfl) ?_
                refine st_nil ?_
                refine kn201 _ _ ?_
                refine ret ?_
                refine leave1 (P := Try.prog) (fn := Try.f3) (t := 6) (v := .bool true) rfl rfl ?_
                exact ⟨rfl, hE209⟩
        ·
          refine st_gn 10 53 rfl rfl (by decide) rfl ?_
          refine st_gn 10 53 rfl rfl (by decide) rfl ?_
          refine st_gn 10 53 rfl rfl (by decide) rfl ?_
          refine st_gn 10 53 rfl rfl (by decide) rfl ?_
          refine st_q (v := .bool false) (x_pickF rfl rfl) ?_
          refine st_nil ?_
          refine kn83 _ _ ?_
          refine cndF rfl ?_
          refine skip ?_
          refine kn79 _ _ ?_
          refine seqK fun Q212 kn213 kr214 ke215 => ?_
          refine seqK fun Q216 kn217 kr218 ke219 => ?_
          refine region ?_
          refine st_q (v := .int .i64 ((0 : Nat) : Int)) (x_assign rfl) ?_
          refine st_nil ?_
          refine kn217 _ _ ?_
          refine blockK fun Q220 kn221 kr222 kx223 kb224 => ?_
          refine loopK (α := Nat) (fun x => [(0, .slice a xs.length ca), (1, .slice b ys.length cb), (9, .int .i64 ((x : Nat) : Int))]) (fun x w225 => Ext w94 w225 ∧ x ≤ xs.length) (fun x => xs.length - x) (0) ⟨rfl, rfl, rfl, trivial⟩ ?_ ?_
          ·
            refine ⟨Below.refl _ _, ?_⟩
            try dsimp only
            exact Nat.zero_le _
          ·
            rintro τ226 i w227 ⟨hx228, hi⟩
            try dsimp only at hi
            have hF229 := hF96.ext hx228
            have hF230 := hF97.ext hx228
            have hE231 : Below w0.heap.size w0 w227 := hx228.e hE98 (Nat.le_refl _)
            have hz232 := hE231.le
            have hs233 := hx228.size
            intro Q234 kn235 kr236 ke237
            refine seqK fun Q238 kn239 kr240 ke241 => ?_
            refine seqK fun Q242 kn243 kr244 ke245 => ?_
            refine region ?_
            refine st_q (v := .int .i64 ((i : Nat) : Int)) (x_move rfl) ?_
            refine st_q (v := .slice a xs.length ca) (x_move rfl) ?_
            refine st_q (v := .int .i64 ((xs.length : Nat) : Int)) (x_lenSl rfl Try.underlying22 rfl) ?_
            refine st_q (v := .bool (decide (i < xs.length))) (x_lssN rfl rfl) ?_
            refine st_if (p := i < xs.length) (x_move rfl) (fun h246 => ?_) (fun h246 => ?_)
            ·
              refine st_gq 4 63 rfl rfl (by decide) ?_
              refine st_q (v := .int .i64 ((i : Nat) : Int)) (x_move rfl) ?_
              refine st_gq 4 63 rfl rfl (by decide) ?_
              refine st_q (v := .slice b ys.length cb) (x_move rfl) ?_
              refine st_gq 4 63 rfl rfl (by decide) ?_
              refine st_q (v := .int .i64 ((ys.length : Nat) : Int)) (x_lenSl rfl Try.underlying22 rfl) ?_
              refine st_gq 4 63 rfl rfl (by decide) ?_
              refine st_q (v := .bool (decide (i < ys.length))) (x_lssN rfl rfl) ?_
              refine st_q (v := .bool (decide (i < ys.length))) (x_pickT rfl rfl) ?_
              refine st_nil ?_
              refine kn243 _ _ ?_
              refine cnd (p := i < ys.length) rfl (fun h247 => ?_) (fun h247 => ?_)
              ·
                refine skip ?_
                refine kn239 _ _ ?_
                refine seqK fun Q248 kn249 kr250 ke251 => ?_
                refine blockK fun Q252 kn253 kr254 kx255 kb256 => ?_
                refine seqK fun Q257 kn258 kr259 ke260 => ?_
                refine regionD1 [3, 7, 12, 16] [0, 1, 2, 3, 4, 5, 6, 7, 9, 10, 11, 12, 13, 14, 15, 16, 18] (.one 0 (.one 1 (.one 2 (.one 3 (.one 4 (.one 5 (.one 6 (.one 7 (.one 9 (.one 10 (.one 11 (.one 12 (.one 13 (.one 14 (.one 15 (.one 16 (.one 8 (.one 17 (.one 18 .done))))))))))))))))))) (by kernel_rfl) (by kernel_rfl) ?_
                intro w261 hx262 hs263
                have hF264 := hF229.ext hx262
                have hF265 := hF230.ext hx262
                have hF266 := hx262.e hx228 (Nat.le_refl _)
                have hE267 : Below w0.heap.size w0 w261 := hx262.e hE231 (Nat.le_refl _)
                have hz268 := hE267.le
                have hs269 := hx262.size
                have hS270 : Ext w261 w261 := Below.refl _ _
                refine d_q (v := .slice a xs.length ca) rfl rfl (fun _ => x_move rfl) ?_
                refine d_q (v := .int .i64 ((i : Nat) : Int)) rfl rfl (fun _ => x_move rfl) ?_
                obtain ⟨b271, o272, ha273, hc274⟩ := ha.at (by omega)
                refine d_q (v := .pointer (some ⟨b271, o272 + i * 1, none⟩)) rfl rfl (fun _ => x_index' T.sl22 rfl ha273 rfl (by omega)) ?_
                refine d_l (v := .string (el xs i)) rfl rfl rfl (fun v276 hw275 => x_load1 T.na9 rfl (((hc274.below hE267).elem enS_len (i := i) (by omega)).ext hw275)) ?_
                refine d_q (v := .slice b ys.length cb) rfl rfl (fun _ => x_move rfl) ?_
                refine d_q (v := .int .i64 ((i : Nat) : Int)) rfl rfl (fun _ => x_move rfl) ?_
                obtain ⟨b277, o278, ha279, hc280⟩ := hb.at (by omega)
                refine d_q (v := .pointer (some ⟨b277, o278 + i * 1, none⟩)) rfl rfl (fun _ => x_index' T.sl22 rfl ha279 rfl (by omega)) ?_
                refine d_l (v := .string (el ys i)) rfl rfl rfl (fun v282 hw281 => x_load1 T.na9 rfl (((hc280.below hE267).elem enS_len (i := i) (by omega)).ext hw281)) ?_
                refine d_q (v := .slice a xs.length ca) rfl rfl (fun _ => x_move rfl) ?_
                refine d_q (v := .int .i64 ((i : Nat) : Int)) rfl rfl (fun _ => x_move rfl) ?_
                refine d_q (v := .pointer (some ⟨b271, o272 + i * 1, none⟩)) rfl rfl (fun _ => x_index' T.sl22 rfl ha273 rfl (by omega)) ?_
                refine d_l (v := .string (el xs i)) rfl rfl rfl (fun v284 hw283 => x_load1 T.na9 rfl (((hc274.below hE267).elem enS_len (i := i) (by omega)).ext hw283)) ?_
                refine d_q (v := .slice b ys.length cb) rfl rfl (fun _ => x_move rfl) ?_
                refine d_q (v := .int .i64 ((i : Nat) : Int)) rfl rfl (fun _ => x_move rfl) ?_
                refine d_q (v := .pointer (some ⟨b277, o278 + i * 1, none⟩)) rfl rfl (fun _ => x_index' T.sl22 rfl ha279 rfl (by omega)) ?_
                refine d_l (v := .string (el ys i)) rfl rfl rfl (fun v286 hw285 => x_load1 T.na9 rfl (((hc280.below hE267).elem enS_len (i := i) (by omega)).ext hw285)) ?_
                refine d_e (by decide) (d_c' rfl rfl (t_call [.string (el xs i), .string (el ys i)] T.cf14 rfl rfl) (texts14 (el xs i) (el ys i) _) ?_)
                rintro _ _ ⟨rfl, rfl⟩
                refine ⟨_, rfl, ?_⟩
                have hS287 := hS270
                refine ⟨fun _ => hS287, ?_⟩
                refine d_e (by decide) (d_c' rfl rfl (t_call [.string (el xs i), .string (el ys i)] T.cf15 rfl rfl) (texts15 (el xs i) (el ys i) _) ?_)
                rintro _ _ ⟨rfl, rfl⟩
                refine ⟨_, rfl, ?_⟩
                have hS288 := hS287
                refine ⟨fun _ => hS288, ?_⟩
                refine d_q (v := .bool (decide ((txt (el xs i) (el ys i)) ≠ (txt (el xs i) (el ys i))))) rfl rfl (fun _ => x_neq rfl rfl) ?_
                refine d_done ?_
                refine kn258 _ _ ?_
                refine cnd (p := (txt (el xs i) (el ys i)) ≠ (txt (el xs i) (el ys i))) rfl (fun h289 => ?_) (fun h289 => ?_)
                ·
                  exact absurd h289 (by omega)
                ·
                  refine skip ?_
                  refine kn253 _ _ ?_
                  refine kn249 _ _ ?_
                  refine region ?_
                  refine st_q (v := .int .i64 ((i : Nat) : Int)) (x_move rfl) ?_
                  refine st_q (v := .int .i64 (((i + 1) : Nat) : Int)) (x_addN rfl rfl (by omega)) ?_
                  refine st_q (v := .int .i64 (((i + 1) : Nat) : Int)) (x_assign rfl) ?_
                  refine st_nil ?_
                  refine kn235 _ ((i + 1)) _ ⟨rfl, rfl, rfl, trivial⟩ ⟨hF266, ?_⟩ ?_
                  ·
                    try dsimp only
                    omega
                  ·
                    (try dsimp only); omega
              ·
                refine exit ?_
                refine ke241 _ _ _ ?_
                refine ke237 _ _ _ ?_
                refine kb224 _ _ ?_
                refine kn213 _ _ ?_
                refine seqK fun Q290 kn291 kr292 ke293 => ?_
                refine region ?_
                refine st_c (t_call [] T.cf16 rfl rfl) (works16 _) ?_
                rintro _ w294 ⟨rfl, hx295⟩
                refine ⟨_, rfl, ?_⟩
                have hF296 := hF229.ext hx295
                have hF297 := hF230.ext hx295
                have hF298 := hx295.e hx228 (Nat.le_refl _)
                have hE299 : Below w0.heap.size w0 w294 := hx295.e hE231 (Nat.le_refl _)
                have hz300 := hE299.le
                have hs301 := hx295.size
                refine st_q (v := .bool true) (x_assign rfl) ?_
                refine st_nil ?_
                refine kn291 _ _ ?_
                refine ret ?_
                refine leave1 (P := Try.prog) (fn := Try.f3) (t := 6) (v := .bool true) rfl rfl ?_
                exact ⟨rfl, hE299⟩
            ·
              refine st_gn 4 63 rfl rfl (by decide) rfl ?_
              refine st_gn 4 63 rfl rfl (by decide) rfl ?_
              refine st_gn 4 63 rfl rfl (by decide) rfl ?_
              refine st_gn 4 63 rfl rfl (by decide) rfl ?_
              refine st_q (v := .bool false) (x_pickF rfl rfl) ?_
              refine st_nil ?_
              refine kn243 _ _ ?_
              refine cndF rfl ?_
              refine exit ?_
              refine ke241 _ _ _ ?_
              refine ke237 _ _ _ ?_
              refine kb224 _ _ ?_
              refine kn213 _ _ ?_
              refine seqK fun Q302 kn303 kr304 ke305 => ?_
              refine region ?_
              refine st_c (t_call [] T.cf16 rfl rfl) (works16 _) ?_
              rintro _ w306 ⟨rfl, hx307⟩
              refine ⟨_, rfl, ?_⟩
              have hF308 := hF229.ext hx307
              have hF309 := hF230.ext hx307
              have hF310 := hx307.e hx228 (Nat.le_refl _)
              have hE311 : Below w0.heap.size w0 w306 := hx307.e hE231 (Nat.le_refl _)
              have hz312 := hE311.le
              have hs313 := hx307.size
              refine st_q (v := .bool true) (x_assign rfl) ?_
              refine st_nil ?_
              refine kn303 _ _ ?_
              refine ret ?_
              refine leave1 (P := Try.prog) (fn := Try.f3) (t := 6) (v := .bool true) rfl rfl ?_
              exact ⟨rfl, hE311⟩
      ·
        refine st_gn 4 47 rfl rfl (by decide) rfl ?_
        refine st_gn 4 47 rfl rfl (by decide) rfl ?_
        refine st_gn 4 47 rfl rfl (by decide) rfl ?_
        refine st_gn 4 47 rfl rfl (by decide) rfl ?_
        refine st_q (v := .bool false) (x_pickF rfl rfl) ?_
        refine st_q (v := .bool false) (x_move rfl) ?_
        refine st_gn 10 53 rfl rfl (by decide) rfl ?_
        refine st_gn 10 53 rfl rfl (by decide) rfl ?_
        refine st_gn 10 53 rfl rfl (by decide) rfl ?_
        refine st_gn 10 53 rfl rfl (by decide) rfl ?_
        refine st_q (v := .bool false) (x_pickF rfl rfl) ?_
        refine st_nil ?_
        refine kn83 _ _ ?_
        refine cndF rfl ?_
        refine skip ?_
        refine kn79 _ _ ?_
        refine seqK fun Q314 kn315 kr316 ke317 => ?_
        refine seqK fun Q318 kn319 kr320 ke321 => ?_
        refine region ?_
        refine st_q (v := .int .i64 ((0 : Nat) : Int)) (x_assign rfl) ?_
        refine st_nil ?_
        refine kn319 _ _ ?_
        refine blockK fun Q322 kn323 kr324 kx325 kb326 => ?_
        refine loopK (α := Nat) (fun x => [(0, .slice a xs.length ca), (1, .slice b ys.length cb), (9, .int .i64 ((x : Nat) : Int))]) (fun x w327 => Ext w86 w327 ∧ x ≤ xs.length) (fun x => xs.length - x) (0) ⟨rfl, rfl, rfl, trivial⟩ ?_ ?_
        ·
          refine ⟨Below.refl _ _, ?_⟩
          try dsimp only
          exact Nat.zero_le _
        ·
          rintro τ328 i w329 ⟨hx330, hi⟩
          try dsimp only at hi
          have hF331 := hF88.ext hx330
          have hF332 := hF89.ext hx330
          have hE333 : Below w0.heap.size w0 w329 := hx330.e hE90 (Nat.le_refl _)
          have hz334 := hE333.le
          have hs335 := hx330.size
          intro Q336 kn337 kr338 ke339
          refine seqK fun Q340 kn341 kr342 ke343 => ?_
          refine seqK fun Q344 kn345 kr346 ke347 => ?_
          refine region ?_
          refine st_q (v := .int .i64 ((i : Nat) : Int)) (x_move rfl) ?_
          refine st_q (v := .slice a xs.length ca) (x_move rfl) ?_
          refine st_q (v := .int .i64 ((xs.length : Nat) : Int)) (x_lenSl rfl Try.underlying22 rfl) ?_
          refine st_q (v := .bool (decide (i < xs.length))) (x_lssN rfl rfl) ?_
          refine st_if (p := i < xs.length) (x_move rfl) (fun h348 => ?_) (fun h348 => ?_)
          ·
            refine st_gq 4 63 rfl rfl (by decide) ?_
            refine st_q (v := .int .i64 ((i : Nat) : Int)) (x_move rfl) ?_
            refine st_gq 4 63 rfl rfl (by decide) ?_
            refine st_q (v := .slice b ys.length cb) (x_move rfl) ?_
            refine st_gq 4 63 rfl rfl (by decide) ?_
            refine st_q (v := .int .i64 ((ys.length : Nat) : Int)) (x_lenSl rfl Try.underlying22 rfl) ?_
            refine st_gq 4 63 rfl rfl (by decide) ?_
            refine st_q (v := .bool (decide (i < ys.length))) (x_lssN rfl rfl) ?_
            refine st_q (v := .bool (decide (i < ys.length))) (x_pickT rfl rfl) ?_
            refine st_nil ?_
            refine kn345 _ _ ?_
            refine cnd (p := i < ys.length) rfl (fun h349 => ?_) (fun h349 => ?_)
            ·
              refine skip ?_
              refine kn341 _ _ ?_
              refine seqK fun Q350 kn351 kr352 ke353 => ?_
              refine blockK fun Q354 kn355 kr356 kx357 kb358 => ?_
              refine seqK fun Q359 kn360 kr361 ke362 => ?_
              refine regionD1 [3, 7, 12, 16] [0, 1, 2, 3, 4, 5, 6, 7, 9, 10, 11, 12, 13, 14, 15, 16, 18] (.one 0 (.one 1 (.one 2 (.one 3 (.one 4 (.one 5 (.one 6 (.one 7 (.one 9 (.one 10 (.one 11 (.one 12 (.one 13 (.one 14 (.one 15 (.one 16 (.one 8 (.one 17 (.one 18 .done))))))))))))))))))) (by kernel_rfl) (by kernel_rfl) ?_
              intro w363 hx364 hs365
              have hF366 := hF331.ext hx364
              have hF367 := hF332.ext hx364
              have hF368 := hx364.e hx330 (Nat.le_refl _)
              have hE369 : Below w0.heap.size w0 w363 := hx364.e hE333 (Nat.le_refl _)
              have hz370 := hE369.le
              have hs371 := hx364.size
              have hS372 : Ext w363 w363 := Below.refl _ _
              refine d_q (v := .slice a xs.length ca) rfl rfl (fun _ => x_move rfl) ?_
              refine d_q (v := .int .i64 ((i : Nat) : Int)) rfl rfl (fun _ => x_move rfl) ?_
              obtain ⟨b373, o374, ha375, hc376⟩ := ha.at (by omega)
              refine d_q (v := .pointer (some ⟨b373, o374 + i * 1, none⟩)) rfl rfl (fun _ => x_index' T.sl22 rfl ha375 rfl (by omega)) ?_
              refine d_l (v := .string (el xs i)) rfl rfl rfl (fun v378 hw377 => x_load1 T.na9 rfl (((hc376.below hE369).elem enS_len (i := i) (by omega)).ext hw377)) ?_
              refine d_q (v := .slice b ys.length cb) rfl rfl (fun _ => x_move rfl) ?_
              refine d_q (v := .int .i64 ((i : Nat) : Int)) rfl rfl (fun _ => x_move rfl) ?_
              obtain ⟨b379, o380, ha381, hc382⟩ := hb.at (by omega)
              refine d_q (v := .pointer (some ⟨b379, o380 + i * 1, none⟩)) rfl rfl (fun _ => x_index' T.sl22 rfl ha381 rfl (by omega)) ?_
              refine d_l (v := .string (el ys i)) rfl rfl rfl (fun v384 hw383 => x_load1 T.na9 rfl (((hc382.below hE369).elem enS_len (i := i) (by omega)).ext hw383)) ?_
              refine d_q (v := .slice a xs.length ca) rfl rfl (fun _ => x_move rfl) ?_
              refine d_q (v := .int .i64 ((i : Nat) : Int)) rfl rfl (fun _ => x_move rfl) ?_
              refine d_q (v := .pointer (some ⟨b373, o374 + i * 1, none⟩)) rfl rfl (fun _ => x_index' T.sl22 rfl ha375 rfl (by omega)) ?_
              refine d_l (v := .string (el xs i)) rfl rfl rfl (fun v386 hw385 => x_load1 T.na9 rfl (((hc376.below hE369).elem enS_len (i := i) (by omega)).ext hw385)) ?_
              refine d_q (v := .slice b ys.length cb) rfl rfl (fun _ => x_move rfl) ?_
              refine d_q (v := .int .i64 ((i : Nat) : Int)) rfl rfl (fun _ => x_move rfl) ?_
              refine d_q (v := .pointer (some ⟨b379, o380 + i * 1, none⟩)) rfl rfl (fun _ => x_index' T.sl22 rfl ha381 rfl (by omega)) ?_
              refine d_l (v := .string (el ys i)) rfl rfl rfl (fun v388 hw387 => x_load1 T.na9 rfl (((hc382.below hE369).elem enS_len (i := i) (by omega)).ext hw387)) ?_
              refine d_e (by decide) (d_c' rfl rfl (t_call [.string (el xs i), .string (el ys i)] T.cf14 rfl rfl) (texts14 (el xs i) (el ys i) _) ?_)
              rintro _ _ ⟨rfl, rfl⟩
              refine ⟨_, rfl, ?_⟩
              have hS389 := hS372
              refine ⟨fun _ => hS389, ?_⟩
              refine d_e (by decide) (d_c' rfl rfl (t_call [.string (el xs i), .string (el ys i)] T.cf15 rfl rfl) (texts15 (el xs i) (el ys i) _) ?_)
              rintro _ _ ⟨rfl, rfl⟩
              refine ⟨_, rfl, ?_⟩
              have hS390 := hS389
              refine ⟨fun _ => hS390, ?_⟩
              refine d_q (v := .bool (decide ((txt (el xs i) (el ys i)) ≠ (txt (el xs i) (el ys i))))) rfl rfl (fun _ => x_neq rfl rfl) ?_
              refine d_done ?_
              refine kn360 _ _ ?_
              refine cnd (p := (txt (el xs i) (el ys i)) ≠ (txt (el xs i) (el ys i))) rfl (fun h391 => ?_) (fun h391 => ?_)
              ·
                exact absurd h391 (by omega)
              ·
                refine skip ?_
                refine kn355 _ _ ?_
                refine kn351 _ _ ?_
                refine region ?_
                refine st_q (v := .int .i64 ((i : Nat) : Int)) (x_move rfl) ?_
                refine st_q (v := .int .i64 (((i + 1) : Nat) : Int)) (x_addN rfl rfl (by omega)) ?_
                refine st_q (v := .int .i64 (((i + 1) : Nat) : Int)) (x_assign rfl) ?_
                refine st_nil ?_
                refine kn337 _ ((i + 1)) _ ⟨rfl, rfl, rfl, trivial⟩ ⟨hF368, ?_⟩ ?_
                ·
                  try dsimp only
                  omega
                ·
                  (try dsimp only); omega
            ·
              refine exit ?_
              refine ke343 _ _ _ ?_
              refine ke339 _ _ _ ?_
              refine kb326 _ _ ?_
              refine kn315 _ _ ?_
              refine seqK fun Q392 kn393 kr394 ke395 => ?_
              refine region ?_
              refine st_c (t_call [] T.cf16 rfl rfl) (works16 _) ?_
              rintro _ w396 ⟨rfl, hx397⟩
              refine ⟨_, rfl, ?_⟩
              have hF398 := hF331.ext hx397
              have hF399 := hF332.ext hx397
              have hF400 := hx397.e hx330 (Nat.le_refl _)
              have hE401 : Below w0.heap.size w0 w396 := hx397.e hE333 (Nat.le_refl _)
              have hz402 := hE401.le
              have hs403 := hx397.size
              refine st_q (v := .bool true) (x_assign rfl) ?_
              refine st_nil ?_
              refine kn393 _ _ ?_
              refine ret ?_
              refine leave1 (P := Try.prog) (fn := Try.f3) (t := 6) (v := .bool true) rfl rfl ?_
              exact ⟨rfl, hE401⟩
          ·
            refine st_gn 4 63 rfl rfl (by decide) rfl ?_
            refine st_gn 4 63 rfl rfl (by decide) rfl ?_
            refine st_gn 4 63 rfl rfl (by decide) rfl ?_
            refine st_gn 4 63 rfl rfl (by decide) rfl ?_
            refine st_q (v := .bool false) (x_pickF rfl rfl) ?_
            refine st_nil ?_
            refine kn345 _ _ ?_
            refine cndF rfl ?_
            refine exit ?_
            refine ke343 _ _ _ ?_
            refine ke339 _ _ _ ?_
            refine kb326 _ _ ?_
            refine kn315 _ _ ?_
            refine seqK fun Q404 kn405 kr406 ke407 => ?_
            refine region ?_
            refine st_c (t_call [] T.cf16 rfl rfl) (works16 _) ?_
            rintro _ w408 ⟨rfl, hx409⟩
            refine ⟨_, rfl, ?_⟩
            have hF410 := hF331.ext hx409
            have hF411 := hF332.ext hx409
            have hF412 := hx409.e hx330 (Nat.le_refl _)
            have hE413 : Below w0.heap.size w0 w408 := hx409.e hE333 (Nat.le_refl _)
            have hz414 := hE413.le
            have hs415 := hx409.size
            refine st_q (v := .bool true) (x_assign rfl) ?_
            refine st_nil ?_
            refine kn405 _ _ ?_
            refine ret ?_
            refine leave1 (P := Try.prog) (fn := Try.f3) (t := 6) (v := .bool true) rfl rfl ?_
            exact ⟨rfl, hE413⟩

end Go.Proofs.Ytgfolockecjlnaa
