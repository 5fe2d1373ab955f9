import Derived.Test.YtknfjgbipfpnjaaGPt
namespace Go.Proofs.Ytknfjgbipfpnjaa
open Go.RowKit Go.Eng Go.OrdPure
open Go.Knot Go.HeapPure
theorem T.cf9 : CF Try.prog 9 := fun _ _ => by kernel_rfl
theorem T.cf10 : CF Try.prog 10 := fun _ _ => by kernel_rfl
theorem T.cf30 : CF Try.prog 30 := fun _ _ => by kernel_rfl
theorem T.cf28 : CF Try.prog 28 := fun _ _ => by kernel_rfl
theorem T.cf31 : CF Try.prog 31 := fun _ _ => by kernel_rfl
theorem T.cf32 : CF Try.prog 32 := fun _ _ => by kernel_rfl
theorem T.cf33 : CF Try.prog 33 := fun _ _ => by kernel_rfl
theorem T.cf14 : CF Try.prog 14 := fun _ _ => by kernel_rfl
theorem T.cf15 : CF Try.prog 15 := fun _ _ => by kernel_rfl
theorem T.cf24 : CF Try.prog 24 := fun _ _ => by kernel_rfl
theorem T.cf27 : CF Try.prog 27 := fun _ _ => by kernel_rfl
theorem T.cf23 : CF Try.prog 23 := fun _ _ => by kernel_rfl
theorem T.cf25 : CF Try.prog 25 := fun _ _ => by kernel_rfl
theorem T.cf47 : CF Try.prog 47 := fun _ _ => by kernel_rfl
theorem T.cf17 : CF Try.prog 17 := fun _ _ => by kernel_rfl
theorem T.cf19 : CF Try.prog 19 := fun _ _ => by kernel_rfl
theorem T.cf43 : CF Try.prog 43 := fun _ _ => by kernel_rfl
theorem T.cf45 : CF Try.prog 45 := fun _ _ => by kernel_rfl

theorem Src.sub1 {h : Array Obj} {a : Option Addr} {c i m : Nat} {xs : List ByteArray} (hs : Src h (.slice a m c) m 1 (flat enS xs)) (hi : i < xs.length) : Src h (.slice (if c = i then a else a.map (·.add (i * 1))) (i + 1 - i) (c - i)) ([el xs i] : List ByteArray).length 1 (flat enS [el xs i]) := by
  obtain ⟨hl, a', c', e, hmc, hcm, h⟩ := hs
  rw [flat_length enS_len] at hl
  injection e with e1 _ e3
  subst e1; subst e3
  rcases h with h0 | ⟨b, o, rfl, hC⟩
  · omega
  · rw [if_neg (by omega), show i + 1 - i = 1 by omega]
    exact ⟨rfl, _, _, rfl, by simp only [List.length_singleton]; omega, by omega, .inr ⟨b, o + i * 1, by simp [Addr.add], hC.elem enS_len (i := i) hi⟩⟩
theorem fr_step {A : Nat → Prop} {k : Nat} {fr fr' : Bool} (h : fr = true ↔ ∀ q, q < k → A q) (h' : fr' = true ↔ fr = true ∧ A k) : fr' = true ↔ ∀ q, q < k + 1 → A q := by
  rw [h', h]
  exact ⟨fun ⟨h1, h2⟩ q hq => by by_cases e : q = k; exact e ▸ h2; exact h1 q (by omega), fun h1 => ⟨fun q hq => h1 q (by omega), h1 k (by omega)⟩⟩
set_option maxHeartbeats 4000000 in
theorem comes43 (es : List Edge) (x y : ByteArray) (va : Value) (w0 : World) (ha : Src w0.heap va es.length 3 (flat enE es)) (hn : 2 * es.length ≤ 2097152) : Calls Try.prog 43 #[va, .string x, .string y] w0 fun e w' => ∃ c, e = .returned (.bool c) ∧ Ext w0 w' ∧ (c = true ↔ Rch es [x] y) := by
  have hE0 : Below w0.heap.size w0 w0 := Below.refl _ _
  have hz0 := hE0.le
  obtain ⟨a, ca, rfl, hca, hca1⟩ := ha.form
  refine enter Try.func43 rfl 14 Try.ntmps43 rfl ?_
  refine seqK fun Q1 kn2 kr3 ke4 => ?_
  refine region ?_
  refine st_q (v := .bool false) (x_assign rfl) ?_
  refine st_nil ?_
  refine kn2 _ _ ?_
  refine seqK fun Q5 kn6 kr7 ke8 => ?_
  refine region ?_
  refine st_q (v := .slice a es.length ca) (x_move rfl) ?_
  refine st_q (v := .string x) (x_move rfl) ?_
  refine st_e (e_buildSlice (cs := [.string x]) (e := 9) (fun _ => by kernel_rfl) ?_)
  intro w9 hA10
  have hx11 := hA10.ext
  have hs12 := hA10.size
  have hB13 : Blk w9.heap w0.heap.size [.string x] 9 := hA10.new
  have hE14 : Below w0.heap.size w0 w9 := hx11.e hE0 (Nat.le_refl _)
  have hz15 := hE14.le
  have hs16 := hx11.size
  have hl17 : Src w9.heap (.slice (some ⟨w0.heap.size, 0, none⟩) 1 1) (([x] : List ByteArray) : List _).length 1 (flat enS ([x] : List ByteArray)) := hB13.src1 (k := 1) (m := 1) rfl (by omega)
  refine st_c (t_call [.slice a es.length ca, .slice ((some ⟨w0.heap.size, 0, none⟩)) 1 1] T.cf32 rfl rfl) (refreach32 es [x] _ _ _ (ha.below hE14) hl17 (by simp only [List.length_singleton]; omega)) ?_
  rintro _ w18 ⟨v20, R, rfl, hx19, hR, hO21⟩
  refine ⟨_, rfl, ?_⟩
  have hB22 := hB13.ext hx19
  have hE23 : Below w0.heap.size w0 w18 := hx19.e hE14 (Nat.le_refl _)
  have hz24 := hE23.le
  have hs25 := hx19.size
  refine st_q (v := .string y) (x_move rfl) ?_
  refine st_c (t_call [v20, .string y] T.cf44 rfl rfl) (place44 R y _ _ hO21.src) ?_
  rintro _ w26 ⟨rfl, hx27⟩
  refine ⟨_, rfl, ?_⟩
  have hB28 := hB22.ext hx27
  have hF29 := hO21.ext hx27
  have hE30 : Below w0.heap.size w0 w26 := hx27.e hE23 (Nat.le_refl _)
  have hz31 := hE30.le
  have hs32 := hx27.size
  refine st_q (v := .bool (decide (0 ≤ ((pl R y))))) (x_geq rfl rfl) ?_
  refine st_q (v := .bool (decide (0 ≤ ((pl R y))))) (x_assign rfl) ?_
  refine st_nil ?_
  refine kn6 _ _ ?_
  refine ret ?_
  refine leave1 (P := Try.prog) (fn := Try.f43) (t := 6) (v := .bool (decide (0 ≤ ((pl R y))))) rfl rfl ?_
  exact ⟨_, rfl, hE30, by rw [decide_eq_true_iff, ← Int.not_lt, pl_neg, Classical.not_not]; exact hR.2 _⟩

set_option maxHeartbeats 4000000 in
theorem without45 (xs ys : List ByteArray) (va vb : Value) (w0 : World) (ha : Src w0.heap va xs.length 1 (flat enS xs)) (hb : Src w0.heap vb ys.length 1 (flat enS ys)) (hn : xs.length ≤ 4194304) : Calls Try.prog 45 #[va, vb] w0 fun e w' => ∃ v, e = .returned v ∧ Ext w0 w' ∧ Own w'.heap w0.heap.size 9 1 v (wo xs ys).length (flat enS (wo xs ys)) := by
  have hE0 : Below w0.heap.size w0 w0 := Below.refl _ _
  have hz0 := hE0.le
  obtain ⟨a, ca, rfl, hca, hca1⟩ := ha.form
  obtain ⟨b, cb, rfl, hcb, hcb1⟩ := hb.form
  refine enter Try.func45 rfl 28 Try.ntmps45 rfl ?_
  refine seqK fun Q1 kn2 kr3 ke4 => ?_
  refine region ?_
  refine st_q (v := .slice none 0 0) (x_assign rfl) ?_
  refine st_nil ?_
  refine kn2 _ _ ?_
  refine seqK fun Q5 kn6 kr7 ke8 => ?_
  refine region ?_
  refine st_q (v := .slice none 0 0) (x_assign rfl) ?_
  refine st_nil ?_
  refine kn6 _ _ ?_
  refine seqK fun Q9 kn10 kr11 ke12 => ?_
  refine seqK fun Q13 kn14 kr15 ke16 => ?_
  refine region ?_
  refine st_q (v := .int .i64 ((0 : Nat) : Int)) (x_assign rfl) ?_
  refine st_nil ?_
  refine kn14 _ _ ?_
  refine blockK fun Q17 kn18 kr19 kx20 kb21 => ?_
  refine loopK (α := Nat × Value) (fun x => [(0, .slice a xs.length ca), (1, .slice b ys.length cb), (5, x.2), (6, .int .i64 ((x.1 : Nat) : Int))]) (fun x w22 => Below w0.heap.size w0 w22 ∧ x.1 ≤ xs.length ∧ Own w22.heap w0.heap.size 9 1 x.2 (wo (xs.take x.1) ys).length (flat enS (wo (xs.take x.1) ys))) (fun x => xs.length - x.1) (0, .slice none 0 0) ⟨rfl, rfl, rfl, rfl, trivial⟩ ?_ ?_
  ·
    refine ⟨hE0, ?_⟩
    try dsimp only
    exact ⟨Nat.zero_le _, Own.nil _ _ _ _⟩
  ·
    rintro τ23 ⟨i, v⟩ w24 ⟨hx25, ⟨hi, hO⟩⟩
    try dsimp only at hi hO
    have hz26 := hx25.le
    intro Q27 kn28 kr29 ke30
    obtain ⟨a31, c32, rfl, hm33, hm34⟩ := hO.src.form
    have hwl := wo_len (xs.take i) ys
    have htl : (xs.take i).length ≤ i := by rw [List.length_take]; omega
    refine seqK fun Q35 kn36 kr37 ke38 => ?_
    refine seqK fun Q39 kn40 kr41 ke42 => ?_
    refine region ?_
    refine st_q (v := .int .i64 ((i : Nat) : Int)) (x_move rfl) ?_
    refine st_q (v := .slice a xs.length ca) (x_move rfl) ?_
    refine st_q (v := .int .i64 ((xs.length : Nat) : Int)) (x_lenSl rfl Try.underlying22 rfl) ?_
    refine st_q (v := .bool (decide (i < xs.length))) (x_lssN rfl rfl) ?_
    refine st_nil ?_
    refine kn40 _ _ ?_
    refine cnd (p := i < xs.length) rfl (fun h43 => ?_) (fun h43 => ?_)
    ·
      refine skip ?_
      refine kn36 _ _ ?_
      refine seqK fun Q44 kn45 kr46 ke47 => ?_
      refine blockK fun Q48 kn49 kr50 kx51 kb52 => ?_
      refine seqK fun Q53 kn54 kr55 ke56 => ?_
      refine region ?_
      refine st_q (v := .slice b ys.length cb) (x_move rfl) ?_
      refine st_q (v := .slice a xs.length ca) (x_move rfl) ?_
      refine st_q (v := .int .i64 ((i : Nat) : Int)) (x_move rfl) ?_
      obtain ⟨b57, o58, ha59, hc60⟩ := ha.at (by omega)
      refine st_q (v := .pointer (some ⟨b57, o58 + i * 1, none⟩)) (x_index' T.sl22 rfl ha59 rfl (by omega)) ?_
      refine st_q (v := .string (el xs i)) (x_load1 T.na9 rfl ((hc60.below hx25).elem enS_len (i := i) (by omega))) ?_
      refine st_c (t_call [.slice b ys.length cb, .string (el xs i)] T.cf44 rfl rfl) (place44 ys (el xs i) _ _ (hb.below hx25)) ?_
      rintro _ w61 ⟨rfl, hx62⟩
      refine ⟨_, rfl, ?_⟩
      have hF63 := hO.ext hx62
      have hE64 : Below w0.heap.size w0 w61 := hx62.e hx25 (Nat.le_refl _)
      have hz65 := hE64.le
      have hs66 := hx62.size
      refine st_q (v := .bool (decide (((pl ys (el xs i))) < 0))) (x_lss rfl rfl) ?_
      refine st_nil ?_
      refine kn54 _ _ ?_
      refine cnd (p := ((pl ys (el xs i))) < 0) rfl (fun h67 => ?_) (fun h67 => ?_)
      ·
        refine region ?_
        refine st_q (v := .slice a31 ((wo (xs.take i) ys).length) c32) (x_move rfl) ?_
        refine st_q (v := .slice a xs.length ca) (x_move rfl) ?_
        refine st_q (v := .int .i64 ((i : Nat) : Int)) (x_move rfl) ?_
        refine st_q (v := .pointer (some ⟨b57, o58 + i * 1, none⟩)) (x_index' T.sl22 rfl ha59 rfl (by omega)) ?_
        refine st_q (v := .string (el xs i)) (x_load1 T.na9 rfl ((hc60.below hE64).elem enS_len (i := i) (by omega))) ?_
        refine st_e (e_buildSlice (cs := [.string (el xs i)]) (e := 9) (fun _ => by kernel_rfl) ?_)
        intro w68 hA69
        have hx70 := hA69.ext
        have hs71 := hA69.size
        have hB72 : Blk w68.heap w61.heap.size [.string (el xs i)] 9 := hA69.new
        have hF73 := hF63.ext hx70
        have hE74 : Below w0.heap.size w0 w68 := hx70.e hE64 (Nat.le_refl _)
        have hz75 := hE74.le
        have hs76 := hx70.size
        refine st_e (e_appendX T.sl22 rfl rfl hF73 (hB72.src1 (k := 1) (m := 1) rfl (by omega)) (ones (by rfl)) (by omega) (by decide) (by omega) ?_)
        intro v77 w78 hO79 hG80 hN81 hW82
        have hE83 : Below w0.heap.size w0 w78 := grown_below hG80 hE74 (Nat.le_refl _) (fun b hb => (by have := (hF73.lt hb).1; clear hb; omega))
        have hz84 := hE83.le
        have hs85 := hG80.size
        have hO86 := Own.snoc (enc := enS) (u := el xs i) hO79
        obtain ⟨a87, c88, rfl, hm89, hm90⟩ := hO86.src.form
        refine st_q (v := .slice a87 (((wo (xs.take i) ys).length + 1)) c88) (x_assign rfl) ?_
        refine st_nil ?_
        refine kn49 _ _ ?_
        refine kn45 _ _ ?_
        refine region ?_
        refine st_q (v := .int .i64 ((i : Nat) : Int)) (x_move rfl) ?_
        refine st_q (v := .int .i64 (((i + 1) : Nat) : Int)) (x_addN rfl rfl (by omega)) ?_
        refine st_q (v := .int .i64 (((i + 1) : Nat) : Int)) (x_assign rfl) ?_
        refine st_nil ?_
        refine kn28 _ ((i + 1), .slice a87 (((wo (xs.take i) ys).length + 1)) c88) _ ⟨rfl, rfl, rfl, rfl, trivial⟩ ⟨hE83, ?_⟩ ?_
        ·
          try dsimp only
          refine ⟨by omega, ?_⟩
          rw [wo_yes (by omega) (pl_neg.1 (by assumption))]
          exact Own.len hO86 (by simp)
        ·
          (try dsimp only); omega
      ·
        refine skip ?_
        refine kn49 _ _ ?_
        refine kn45 _ _ ?_
        refine region ?_
        refine st_q (v := .int .i64 ((i : Nat) : Int)) (x_move rfl) ?_
        refine st_q (v := .int .i64 (((i + 1) : Nat) : Int)) (x_addN rfl rfl (by omega)) ?_
        refine st_q (v := .int .i64 (((i + 1) : Nat) : Int)) (x_assign rfl) ?_
        refine st_nil ?_
        refine kn28 _ ((i + 1), .slice a31 ((wo (xs.take i) ys).length) c32) _ ⟨rfl, rfl, rfl, rfl, trivial⟩ ⟨hE64, ?_⟩ ?_
        ·
          try dsimp only
          refine ⟨by omega, ?_⟩
          rw [wo_no (by omega) (Classical.not_not.1 fun hn => absurd (pl_neg.2 hn) (by assumption))]
          exact hF63
        ·
          (try dsimp only); omega
    ·
      refine exit ?_
      refine ke38 _ _ _ ?_
      refine ke30 _ _ _ ?_
      refine kb21 _ _ ?_
      refine kn10 _ _ ?_
      refine seqK fun Q91 kn92 kr93 ke94 => ?_
      refine region ?_
      refine st_q (v := .slice a31 ((wo (xs.take i) ys).length) c32) (x_move rfl) ?_
      refine st_q (v := .slice a31 ((wo (xs.take i) ys).length) c32) (x_assign rfl) ?_
      refine st_nil ?_
      refine kn92 _ _ ?_
      refine ret ?_
      refine leave1 (P := Try.prog) (fn := Try.f45) (t := 4) (v := .slice a31 ((wo (xs.take i) ys).length) c32) rfl rfl ?_
      have e0 : xs.take i = xs := List.take_of_length_le (by omega)
      have h := hO
      rw [e0] at h ⊢
      exact ⟨_, rfl, hx25, h⟩

set_option maxHeartbeats 4000000 in
theorem refparts12 (xs : List ByteArray) (es : List Edge) (P : List (List ByteArray)) (va vb : Value) (w0 : World) (ha : Src w0.heap va xs.length 1 (flat enS xs)) (hb : Src w0.heap vb es.length 3 (flat enE es)) (hn : xs.length + 2 * es.length ≤ 2097152) (hG : Gre es (nodesL xs es) P) : Calls Try.prog 12 #[va, vb] w0 fun e w' => ∃ v us, e = .returned v ∧ Ext w0 w' ∧ Own w'.heap w0.heap.size 22 1 v P.length (flat enV us) ∧ RowsO w'.heap w0.heap.size us P := by
  have hE0 : Below w0.heap.size w0 w0 := Below.refl _ _
  have hz0 := hE0.le
  obtain ⟨a, ca, rfl, hca, hca1⟩ := ha.form
  obtain ⟨b, cb, rfl, hcb, hcb1⟩ := hb.form
  refine enter Try.func12 rfl 78 Try.ntmps12 rfl ?_
  refine seqK fun Q1 kn2 kr3 ke4 => ?_
  refine region ?_
  refine st_q (v := .slice none 0 0) (x_assign rfl) ?_
  refine st_nil ?_
  refine kn2 _ _ ?_
  refine seqK fun Q5 kn6 kr7 ke8 => ?_
  refine region ?_
  refine st_q (v := .slice a xs.length ca) (x_move rfl) ?_
  refine st_q (v := .slice b es.length cb) (x_move rfl) ?_
  refine st_c (t_call [.slice a xs.length ca, .slice b es.length cb] T.cf31 rfl rfl) (refnodes31 xs es _ _ _ (ha.below hE0) (hb.below hE0) (by omega)) ?_
  rintro _ w9 ⟨v11, rfl, hx10, hO12⟩
  refine ⟨_, rfl, ?_⟩
  have hE13 : Below w0.heap.size w0 w9 := hx10.e hE0 (Nat.le_refl _)
  have hz14 := hE13.le
  have hs15 := hx10.size
  obtain ⟨an, cn, rfl, _, _⟩ := hO12.src.form
  have hnl := nodesL_len xs es
  have hends : ∀ k, k < es.length → (el es k).1 ∈ (nodesL xs es) ∧ (el es k).2.1 ∈ (nodesL xs es) := fun k hk => ⟨nodesL_mem.2 (.inr ⟨_, el_memE hk, .inl rfl⟩), nodesL_mem.2 (.inr ⟨_, el_memE hk, .inr rfl⟩)⟩
  refine st_q (v := .slice an ((nodesL xs es).length) cn) (x_assign rfl) ?_
  refine st_nil ?_
  refine kn6 _ _ ?_
  refine seqK fun Q16 kn17 kr18 ke19 => ?_
  refine region ?_
  refine st_q (v := .slice none 0 0) (x_assign rfl) ?_
  refine st_nil ?_
  refine kn17 _ _ ?_
  refine seqK fun Q20 kn21 kr22 ke23 => ?_
  refine blockK fun Q24 kn25 kr26 kx27 kb28 => ?_
  refine loopK (α := (List ByteArray) × Value × Value × (List Value) × (List (List ByteArray)) × (List (List ByteArray))) (fun x => [(1, .slice b es.length cb), (5, x.2.1), (6, x.2.2.1)]) (fun x w29 => Below w0.heap.size w0 w29 ∧ P = x.2.2.2.2.1 ++ x.2.2.2.2.2 ∧ Gre es x.1 x.2.2.2.2.2 ∧ x.2.2.2.2.1.length + x.1.length ≤ (nodesL xs es).length ∧ Own w29.heap w0.heap.size 9 1 x.2.1 x.1.length (flat enS x.1) ∧ Own w29.heap w0.heap.size 22 1 x.2.2.1 x.2.2.2.1.length (flat enV x.2.2.2.1) ∧ RowsO w29.heap w0.heap.size x.2.2.2.1 x.2.2.2.2.1) (fun x => x.1.length) ((nodesL xs es), .slice an ((nodesL xs es).length) cn, .slice none 0 0, [], [], P) ⟨rfl, rfl, rfl, trivial⟩ ?_ ?_
  ·
    refine ⟨hE13, ?_⟩
    try dsimp only
    exact ⟨rfl, hG, by simp, hO12, Own.nil _ _ _ _, RowsO.nil _ _⟩
  ·
    rintro τ30 ⟨left, vl, vo, us, dn, rest⟩ w31 ⟨hx32, ⟨hP, hGr, hdl, hOl, hOo, hRO⟩⟩
    try dsimp only at hP hGr hdl hOl hOo hRO
    have hz33 := hx32.le
    intro Q34 kn35 kr36 ke37
    obtain ⟨al, cl, rfl, _, _⟩ := hOl.src.form
    have hE1_ : Ext w31 w31 := Below.refl _ _
    obtain ⟨a38, c39, rfl, hm40, hm41⟩ := hOo.src.form
    have hul := hRO.len
    refine seqK fun Q42 kn43 kr44 ke45 => ?_
    refine seqK fun Q46 kn47 kr48 ke49 => ?_
    refine region ?_
    refine st_q (v := .slice al left.length cl) (x_move rfl) ?_
    refine st_q (v := .int .i64 ((left.length : Nat) : Int)) (x_lenSl rfl Try.underlying22 rfl) ?_
    refine st_q (v := .bool (decide (0 < left.length))) (x_gtrN rfl rfl) ?_
    refine st_nil ?_
    refine kn47 _ _ ?_
    refine cnd (p := 0 < left.length) rfl (fun h50 => ?_) (fun h50 => ?_)
    ·
      refine skip ?_
      refine kn43 _ _ ?_
      refine blockK fun Q51 kn52 kr53 kx54 kb55 => ?_
      refine seqK fun Q56 kn57 kr58 ke59 => ?_
      refine region ?_
      refine st_q (v := .int .i64 ((0 : Nat) : Int)) (x_assign rfl) ?_
      refine st_nil ?_
      refine kn57 _ _ ?_
      refine blockK fun Q60 kn61 kr62 kx63 kb64 => ?_
      refine loopK (α := Nat) (fun x => [(1, .slice b es.length cb), (5, .slice al left.length cl), (6, .slice a38 us.length c39), (7, .int .i64 ((x : Nat) : Int))]) (fun x w65 => Ext w31 w65 ∧ x ≤ left.length ∧ ∀ j, j < x → ¬ FreeIn es left (el left j)) (fun x => left.length - x) (0) ⟨rfl, rfl, rfl, rfl, trivial⟩ ?_ ?_
      ·
        refine ⟨Below.refl _ _, ?_⟩
        try dsimp only
        exact ⟨Nat.zero_le _, fun j hj => absurd hj (by omega)⟩
      ·
        rintro τ66 i w67 ⟨hx68, ⟨hi, hno⟩⟩
        try dsimp only at hi hno
        have hF69 := hx68.e hE1_ (Nat.le_refl _)
        have hF70 := hOo.ext hx68
        have hE71 : Below w0.heap.size w0 w67 := hx68.e hx32 (Nat.le_refl _)
        have hz72 := hE71.le
        have hs73 := hx68.size
        intro Q74 kn75 kr76 ke77
        refine seqK fun Q78 kn79 kr80 ke81 => ?_
        refine seqK fun Q82 kn83 kr84 ke85 => ?_
        refine region ?_
        refine st_q (v := .int .i64 ((i : Nat) : Int)) (x_move rfl) ?_
        refine st_q (v := .slice al left.length cl) (x_move rfl) ?_
        refine st_q (v := .int .i64 ((left.length : Nat) : Int)) (x_lenSl rfl Try.underlying22 rfl) ?_
        refine st_q (v := .bool (decide (i < left.length))) (x_lssN rfl rfl) ?_
        refine st_nil ?_
        refine kn83 _ _ ?_
        refine cnd (p := i < left.length) rfl (fun h86 => ?_) (fun h86 => ?_)
        ·
          refine skip ?_
          refine kn79 _ _ ?_
          refine seqK fun Q87 kn88 kr89 ke90 => ?_
          refine blockK fun Q91 kn92 kr93 kx94 kb95 => ?_
          refine seqK fun Q96 kn97 kr98 ke99 => ?_
          refine region ?_
          refine st_q (v := .slice b es.length cb) (x_move rfl) ?_
          refine st_q (v := .slice al left.length cl) (x_move rfl) ?_
          refine st_q (v := .int .i64 ((i : Nat) : Int)) (x_move rfl) ?_
          refine st_q (v := .int .i64 ((i : Nat) : Int)) (x_move rfl) ?_
          refine st_q (v := .int .i64 (((i + 1) : Nat) : Int)) (x_addN rfl rfl (by omega)) ?_
          refine st_q (v := .slice ((if cl = i then al else al.map (·.add (i * 1)))) (((i + 1) - i)) ((cl - i))) (x_sliceLH T.sl22 rfl rfl rfl (by omega) (by omega)) ?_
          refine st_c (t_call [.slice b es.length cb, .slice ((if cl = i then al else al.map (·.add (i * 1)))) (((i + 1) - i)) ((cl - i))] T.cf32 rfl rfl) (refreach32 es [el left i] _ _ _ (hb.below hE71) (Src.sub1 (hOl.src.below hF69) (by omega)) (by simp only [List.length_singleton]; omega)) ?_
          rintro _ w100 ⟨v102, R, rfl, hx101, hR, hO103⟩
          refine ⟨_, rfl, ?_⟩
          have hF104 := hx101.e hF69 (Nat.le_refl _)
          have hF105 := hF70.ext hx101
          have hF106 := hx101.e hx68 (Nat.le_refl _)
          have hE107 : Below w0.heap.size w0 w100 := hx101.e hE71 (Nat.le_refl _)
          have hz108 := hE107.le
          have hs109 := hx101.size
          have hRl := hR.len
          simp only [List.length_singleton] at hRl
          obtain ⟨ar, cr, rfl, _, _⟩ := hO103.src.form
          have hE2_ : Ext w100 w100 := Below.refl _ _
          refine st_q (v := .slice ar R.length cr) (x_assign rfl) ?_
          refine st_nil ?_
          refine kn97 _ _ ?_
          refine seqK fun Q110 kn111 kr112 ke113 => ?_
          refine region ?_
          refine st_q (v := .slice none 0 0) (x_assign rfl) ?_
          refine st_nil ?_
          refine kn111 _ _ ?_
          refine seqK fun Q114 kn115 kr116 ke117 => ?_
          refine region ?_
          refine st_q (v := .bool true) (x_assign rfl) ?_
          refine st_nil ?_
          refine kn115 _ _ ?_
          refine seqK fun Q118 kn119 kr120 ke121 => ?_
          refine seqK fun Q122 kn123 kr124 ke125 => ?_
          refine region ?_
          refine st_q (v := .int .i64 ((0 : Nat) : Int)) (x_assign rfl) ?_
          refine st_nil ?_
          refine kn123 _ _ ?_
          refine blockK fun Q126 kn127 kr128 kx129 kb130 => ?_
          refine loopK (α := Nat × Value × Bool) (fun x => [(1, .slice b es.length cb), (5, .slice al left.length cl), (6, .slice a38 us.length c39), (7, .int .i64 ((i : Nat) : Int)), (8, .slice ar R.length cr), (9, x.2.1), (10, .bool x.2.2), (11, .int .i64 ((x.1 : Nat) : Int))]) (fun x w131 => Ext w100 w131 ∧ x.1 ≤ R.length ∧ Own w131.heap w100.heap.size 9 1 x.2.1 (filt es (el left i) (R.take x.1)).length (flat enS (filt es (el left i) (R.take x.1))) ∧ (x.2.2 = true ↔ ∀ q, q < x.1 → (Rch es [el R q] (el left i) ∨ el R q ∉ left))) (fun x => R.length - x.1) (0, .slice none 0 0, true) ⟨rfl, rfl, rfl, rfl, rfl, rfl, rfl, rfl, trivial⟩ ?_ ?_
          ·
            refine ⟨Below.refl _ _, ?_⟩
            try dsimp only
            have e0 : filt es (el left i) (R.take 0) = [] := by rw [List.take_zero]; rfl
            exact ⟨Nat.zero_le _, by rw [e0]; exact Own.nil _ _ _ _, fun _ q hq => absurd hq (by omega), fun _ => rfl⟩
          ·
            rintro τ132 ⟨k, vp, fr⟩ w133 ⟨hx134, ⟨hk, hOp, hfr⟩⟩
            try dsimp only at hk hOp hfr
            have hF135 := hx134.e hF104 (Nat.le_refl _)
            have hF136 := hF105.ext hx134
            have hF137 := hx134.e hF106 (Nat.le_refl _)
            have hF138 := hx134.e hE2_ (Nat.le_refl _)
            have hE139 : Below w0.heap.size w0 w133 := hx134.e hE107 (Nat.le_refl _)
            have hz140 := hE139.le
            have hs141 := hx134.size
            intro Q142 kn143 kr144 ke145
            obtain ⟨a146, c147, rfl, hm148, hm149⟩ := hOp.src.form
            have hptl := filt_len es (el left i) (R.take k)
            have htk : (R.take k).length ≤ R.length := by rw [List.length_take]; omega
            refine seqK fun Q150 kn151 kr152 ke153 => ?_
            refine seqK fun Q154 kn155 kr156 ke157 => ?_
            refine region ?_
            refine st_q (v := .int .i64 ((k : Nat) : Int)) (x_move rfl) ?_
            refine st_q (v := .slice ar R.length cr) (x_move rfl) ?_
            refine st_q (v := .int .i64 ((R.length : Nat) : Int)) (x_lenSl rfl Try.underlying22 rfl) ?_
            refine st_q (v := .bool (decide (k < R.length))) (x_lssN rfl rfl) ?_
            refine st_nil ?_
            refine kn155 _ _ ?_
            refine cnd (p := k < R.length) rfl (fun h158 => ?_) (fun h158 => ?_)
            ·
              refine skip ?_
              refine kn151 _ _ ?_
              refine seqK fun Q159 kn160 kr161 ke162 => ?_
              refine blockK fun Q163 kn164 kr165 kx166 kb167 => ?_
              refine seqK fun Q168 kn169 kr170 ke171 => ?_
              refine regionD1 [4, 8] [0, 1, 2, 3, 4, 5, 6, 7, 8, 10] (.one 0 (.one 1 (.one 2 (.one 3 (.one 4 (.one 5 (.one 6 (.one 7 (.one 8 (.one 9 (.one 10 .done))))))))))) (by kernel_rfl) (by kernel_rfl) ?_
              intro w172 hx173 hs174
              have hF175 := hx173.e hF135 (Nat.le_refl _)
              have hF176 := hF136.ext hx173
              have hF177 := hx173.e hF137 (Nat.le_refl _)
              have hF178 := hx173.e hF138 (Nat.le_refl _)
              have hF179 := hx173.e hx134 (Nat.le_refl _)
              have hF180 := hOp.ext hx173
              have hE181 : Below w0.heap.size w0 w172 := hx173.e hE139 (Nat.le_refl _)
              have hz182 := hE181.le
              have hs183 := hx173.size
              have hS184 : Ext w172 w172 := Below.refl _ _
              refine d_q (v := .slice b es.length cb) rfl rfl (fun _ => x_move rfl) ?_
              refine d_q (v := .slice ar R.length cr) rfl rfl (fun _ => x_move rfl) ?_
              refine d_q (v := .int .i64 ((k : Nat) : Int)) rfl rfl (fun _ => x_move rfl) ?_
              obtain ⟨b185, o186, ha187, hc188⟩ := hO103.src.at (by omega)
              refine d_q (v := .pointer (some ⟨b185, o186 + k * 1, none⟩)) rfl rfl (fun _ => x_index' T.sl22 rfl ha187 rfl (by omega)) ?_
              refine d_l (v := .string (el R k)) rfl rfl rfl (fun v190 hw189 => x_load1 T.na9 rfl (((hc188.below hF178).elem enS_len (i := k) (by omega)).ext hw189)) ?_
              refine d_q (v := .slice al left.length cl) rfl rfl (fun _ => x_move rfl) ?_
              refine d_q (v := .int .i64 ((i : Nat) : Int)) rfl rfl (fun _ => x_move rfl) ?_
              obtain ⟨b191, o192, ha193, hc194⟩ := hOl.src.at (by omega)
              refine d_q (v := .pointer (some ⟨b191, o192 + i * 1, none⟩)) rfl rfl (fun _ => x_index' T.sl22 rfl ha193 rfl (by omega)) ?_
              refine d_l (v := .string (el left i)) rfl rfl rfl (fun v196 hw195 => x_load1 T.na9 rfl (((hc194.below hF175).elem enS_len (i := i) (by omega)).ext hw195)) ?_
              refine d_e (by decide) (d_c' rfl rfl (t_call [.slice b es.length cb, .string (el R k), .string (el left i)] T.cf43 rfl rfl) (comes43 es (el R k) (el left i) _ _ (hb.below hE181) (by omega)) ?_)
              rintro _ w197 ⟨c, rfl, hx198, hc⟩
              obtain rfl | rfl := Bool.eq_false_or_eq_true c
              ·
                refine ⟨_, rfl, ?_⟩
                have hF199 := hx198.e hF175 (Nat.le_refl _)
                have hF200 := hF176.ext hx198
                have hF201 := hx198.e hF177 (Nat.le_refl _)
                have hF202 := hx198.e hF178 (Nat.le_refl _)
                have hF203 := hx198.e hF179 (Nat.le_refl _)
                have hF204 := hF180.ext hx198
                have hE205 : Below w0.heap.size w0 w197 := hx198.e hE181 (Nat.le_refl _)
                have hz206 := hE205.le
                have hs207 := hx198.size
                have hS208 := hS184.trans (hx198.mono hS184.size)
                refine ⟨fun _ => hS208, ?_⟩
                have hrk := hc.1 rfl
                refine d_q (v := .bool true) rfl rfl (fun _ => x_assign rfl) ?_
                refine d_done ?_
                refine kn169 _ _ ?_
                refine seqK fun Q209 kn210 kr211 ke212 => ?_
                refine seqK fun Q213 kn214 kr215 ke216 => ?_
                refine region ?_
                refine st_q (v := .bool true) (x_move rfl) ?_
                refine st_nil ?_
                refine kn214 _ _ ?_
                refine cndT rfl ?_
                refine region ?_
                refine st_q (v := .slice a146 ((filt es (el left i) (R.take k)).length) c147) (x_move rfl) ?_
                refine st_q (v := .slice ar R.length cr) (x_move rfl) ?_
                refine st_q (v := .int .i64 ((k : Nat) : Int)) (x_move rfl) ?_
                refine st_q (v := .pointer (some ⟨b185, o186 + k * 1, none⟩)) (x_index' T.sl22 rfl ha187 rfl (by omega)) ?_
                refine st_q (v := .string (el R k)) (x_load1 T.na9 rfl ((hc188.below hF202).elem enS_len (i := k) (by omega))) ?_
                refine st_e (e_buildSlice (cs := [.string (el R k)]) (e := 9) (fun _ => by kernel_rfl) ?_)
                intro w217 hA218
                have hx219 := hA218.ext
                have hs220 := hA218.size
                have hB221 : Blk w217.heap w197.heap.size [.string (el R k)] 9 := hA218.new
                have hF222 := hx219.e hF199 (Nat.le_refl _)
                have hF223 := hF200.ext hx219
                have hF224 := hx219.e hF201 (Nat.le_refl _)
                have hF225 := hx219.e hF202 (Nat.le_refl _)
                have hF226 := hx219.e hF203 (Nat.le_refl _)
                have hF227 := hF204.ext hx219
                have hE228 : Below w0.heap.size w0 w217 := hx219.e hE205 (Nat.le_refl _)
                have hz229 := hE228.le
                have hs230 := hx219.size
                refine st_e (e_appendX T.sl22 rfl rfl hF227 (hB221.src1 (k := 1) (m := 1) rfl (by omega)) (ones (by rfl)) (by omega) (by decide) (by omega) ?_)
                intro v231 w232 hO233 hG234 hN235 hW236
                have hF237 := grown_below hG234 hF222 (Nat.le_refl _) (fun b hb => (by have := (hF227.lt hb).1; clear hb; omega))
                have hF238 := hF223.gk (hG234) (hF227.rowk) (by decide)
                have hF239 := grown_below hG234 hF224 (Nat.le_refl _) (fun b hb => (by have := (hF227.lt hb).1; clear hb; omega))
                have hF240 := grown_below hG234 hF225 (Nat.le_refl _) (fun b hb => (by have := (hF227.lt hb).1; clear hb; omega))
                have hF241 := grown_below hG234 hF226 (Nat.le_refl _) (fun b hb => (by have := (hF227.lt hb).1; clear hb; omega))
                have hE242 : Below w0.heap.size w0 w232 := grown_below hG234 hE228 (Nat.le_refl _) (fun b hb => (by have := (hF227.lt hb).1; clear hb; omega))
                have hz243 := hE242.le
                have hs244 := hG234.size
                have hO245 := Own.snoc (enc := enS) (u := el R k) hO233
                obtain ⟨a246, c247, rfl, hm248, hm249⟩ := hO245.src.form
                refine st_q (v := .slice a246 (((filt es (el left i) (R.take k)).length + 1)) c247) (x_assign rfl) ?_
                refine st_nil ?_
                refine kn210 _ _ ?_
                refine region ?_
                refine st_q (v := .bool fr) (x_move rfl) ?_
                refine st_if (p := fr = true) (x_moveBB rfl) (fun h250 => ?_) (fun h250 => ?_)
                ·
                  refine st_gq 1 57 rfl rfl (by decide) ?_
                  refine st_q (v := .bool true) (x_move rfl) ?_
                  refine st_gq 1 57 rfl rfl (by decide) ?_
                  refine st_q (v := .bool true) (x_move rfl) ?_
                  refine st_gn 3 59 rfl rfl (by decide) rfl ?_
                  refine st_gn 3 59 rfl rfl (by decide) rfl ?_
                  refine st_gn 3 59 rfl rfl (by decide) rfl ?_
                  refine st_gn 3 59 rfl rfl (by decide) rfl ?_
                  refine st_gn 3 59 rfl rfl (by decide) rfl ?_
                  refine st_gn 3 59 rfl rfl (by decide) rfl ?_
                  refine st_gn 3 59 rfl rfl (by decide) rfl ?_
                  refine st_gq 1 57 rfl rfl (by decide) ?_
                  refine st_q (v := .bool true) (x_pickT rfl rfl) ?_
                  refine st_q (v := .bool true) (x_pickT rfl rfl) ?_
                  refine st_q (v := .bool true) (x_assign rfl) ?_
                  refine st_nil ?_
                  refine kn164 _ _ ?_
                  refine kn160 _ _ ?_
                  refine region ?_
                  refine st_q (v := .int .i64 ((k : Nat) : Int)) (x_move rfl) ?_
                  refine st_q (v := .int .i64 (((k + 1) : Nat) : Int)) (x_addN rfl rfl (by omega)) ?_
                  refine st_q (v := .int .i64 (((k + 1) : Nat) : Int)) (x_assign rfl) ?_
                  refine st_nil ?_
                  refine kn143 _ ((k + 1), .slice a246 (((filt es (el left i) (R.take k)).length + 1)) c247, true) _ ⟨rfl, rfl, rfl, rfl, rfl, rfl, rfl, rfl, trivial⟩ ⟨hF241, ?_⟩ ?_
                  ·
                    try dsimp only
                    exact ⟨by omega, by rw [filt_yes (by omega) hrk]; exact Own.len hO245 (by simp), fr_step hfr ⟨fun _ => ⟨by assumption, .inl hrk⟩, fun _ => rfl⟩⟩
                  ·
                    (try dsimp only); omega
                ·
                  refine st_gn 1 57 rfl rfl (by decide) rfl ?_
                  refine st_gn 1 57 rfl rfl (by decide) rfl ?_
                  refine st_gu 3 59 rfl rfl (by decide) ?_
                  refine st_gu 3 59 rfl rfl (by decide) ?_
                  refine st_gu 3 59 rfl rfl (by decide) ?_
                  refine st_gu 3 59 rfl rfl (by decide) ?_
                  refine st_gu 3 59 rfl rfl (by decide) ?_
                  refine st_gu 3 59 rfl rfl (by decide) ?_
                  refine st_gu 3 59 rfl rfl (by decide) ?_
                  refine st_gn 1 57 rfl rfl (by decide) rfl ?_
                  refine st_q (v := .bool false) (x_pickF rfl rfl) ?_
                  refine st_q (v := .bool false) (x_assign rfl) ?_
                  refine st_nil ?_
                  refine kn164 _ _ ?_
                  refine kn160 _ _ ?_
                  refine region ?_
                  refine st_q (v := .int .i64 ((k : Nat) : Int)) (x_move rfl) ?_
                  refine st_q (v := .int .i64 (((k + 1) : Nat) : Int)) (x_addN rfl rfl (by omega)) ?_
                  refine st_q (v := .int .i64 (((k + 1) : Nat) : Int)) (x_assign rfl) ?_
                  refine st_nil ?_
                  refine kn143 _ ((k + 1), .slice a246 (((filt es (el left i) (R.take k)).length + 1)) c247, false) _ ⟨rfl, rfl, rfl, rfl, rfl, rfl, rfl, rfl, trivial⟩ ⟨hF241, ?_⟩ ?_
                  ·
                    try dsimp only
                    exact ⟨by omega, by rw [filt_yes (by omega) hrk]; exact Own.len hO245 (by simp), fr_step hfr ⟨fun h => (by cases h), fun h => absurd h.1 (by assumption)⟩⟩
                  ·
                    (try dsimp only); omega
              ·
                refine ⟨_, rfl, ?_⟩
                have hF251 := hx198.e hF175 (Nat.le_refl _)
                have hF252 := hF176.ext hx198
                have hF253 := hx198.e hF177 (Nat.le_refl _)
                have hF254 := hx198.e hF178 (Nat.le_refl _)
                have hF255 := hx198.e hF179 (Nat.le_refl _)
                have hF256 := hF180.ext hx198
                have hE257 : Below w0.heap.size w0 w197 := hx198.e hE181 (Nat.le_refl _)
                have hz258 := hE257.le
                have hs259 := hx198.size
                have hS260 := hS184.trans (hx198.mono hS184.size)
                refine ⟨fun _ => hS260, ?_⟩
                have hnk : ¬ Rch es [el R k] (el left i) := fun h => (by have := hc.2 h; cases this)
                refine d_q (v := .bool false) rfl rfl (fun _ => x_assign rfl) ?_
                refine d_done ?_
                refine kn169 _ _ ?_
                refine seqK fun Q261 kn262 kr263 ke264 => ?_
                refine seqK fun Q265 kn266 kr267 ke268 => ?_
                refine region ?_
                refine st_q (v := .bool false) (x_move rfl) ?_
                refine st_nil ?_
                refine kn266 _ _ ?_
                refine cndF rfl ?_
                refine skip ?_
                refine kn262 _ _ ?_
                refine region ?_
                refine st_q (v := .bool fr) (x_move rfl) ?_
                refine st_if (p := fr = true) (x_moveBB rfl) (fun h269 => ?_) (fun h269 => ?_)
                ·
                  refine st_gq 1 57 rfl rfl (by decide) ?_
                  refine st_q (v := .bool false) (x_move rfl) ?_
                  refine st_gq 1 57 rfl rfl (by decide) ?_
                  refine st_q (v := .bool false) (x_move rfl) ?_
                  refine st_gq 3 59 rfl rfl (by decide) ?_
                  refine st_q (v := .slice al left.length cl) (x_move rfl) ?_
                  refine st_gq 3 59 rfl rfl (by decide) ?_
                  refine st_q (v := .slice ar R.length cr) (x_move rfl) ?_
                  refine st_gq 3 59 rfl rfl (by decide) ?_
                  refine st_q (v := .int .i64 ((k : Nat) : Int)) (x_move rfl) ?_
                  refine st_gq 3 59 rfl rfl (by decide) ?_
                  refine st_q (v := .pointer (some ⟨b185, o186 + k * 1, none⟩)) (x_index' T.sl22 rfl ha187 rfl (by omega)) ?_
                  refine st_gq 3 59 rfl rfl (by decide) ?_
                  refine st_q (v := .string (el R k)) (x_load1 T.na9 rfl ((hc188.below hF254).elem enS_len (i := k) (by omega))) ?_
                  refine st_gq 3 59 rfl rfl (by decide) ?_
                  refine st_c (t_call [.slice al left.length cl, .string (el R k)] T.cf44 rfl rfl) (place44 left (el R k) _ _ (hOl.src.below hF251)) ?_
                  rintro _ w270 ⟨rfl, hx271⟩
                  refine ⟨_, rfl, ?_⟩
                  have hF272 := hx271.e hF251 (Nat.le_refl _)
                  have hF273 := hF252.ext hx271
                  have hF274 := hx271.e hF253 (Nat.le_refl _)
                  have hF275 := hx271.e hF254 (Nat.le_refl _)
                  have hF276 := hx271.e hF255 (Nat.le_refl _)
                  have hF277 := hF256.ext hx271
                  have hE278 : Below w0.heap.size w0 w270 := hx271.e hE257 (Nat.le_refl _)
                  have hz279 := hE278.le
                  have hs280 := hx271.size
                  refine st_gq 3 59 rfl rfl (by decide) ?_
                  refine st_q (v := .bool (decide (((pl left (el R k))) < 0))) (x_lss rfl rfl) ?_
                  refine st_gq 1 57 rfl rfl (by decide) ?_
                  refine st_q (v := .bool (decide (((pl left (el R k))) < 0))) (x_pickF rfl rfl) ?_
                  refine st_q (v := .bool (decide (((pl left (el R k))) < 0))) (x_pickT rfl rfl) ?_
                  refine st_q (v := .bool (decide (((pl left (el R k))) < 0))) (x_assign rfl) ?_
                  refine st_nil ?_
                  refine kn164 _ _ ?_
                  refine kn160 _ _ ?_
                  refine region ?_
                  refine st_q (v := .int .i64 ((k : Nat) : Int)) (x_move rfl) ?_
                  refine st_q (v := .int .i64 (((k + 1) : Nat) : Int)) (x_addN rfl rfl (by omega)) ?_
                  refine st_q (v := .int .i64 (((k + 1) : Nat) : Int)) (x_assign rfl) ?_
                  refine st_nil ?_
                  refine kn143 _ ((k + 1), .slice a146 ((filt es (el left i) (R.take k)).length) c147, (decide (((pl left (el R k))) < 0))) _ ⟨rfl, rfl, rfl, rfl, rfl, rfl, rfl, rfl, trivial⟩ ⟨hF276, ?_⟩ ?_
                  ·
                    try dsimp only
                    exact ⟨by omega, by rw [filt_no (by omega) hnk]; exact hF277, fr_step hfr ⟨fun h => ⟨by assumption, .inr (pl_neg.1 (of_decide_eq_true h))⟩, fun h => decide_eq_true (pl_neg.2 (h.2.resolve_left hnk))⟩⟩
                  ·
                    (try dsimp only); omega
                ·
                  refine st_gn 1 57 rfl rfl (by decide) rfl ?_
                  refine st_gn 1 57 rfl rfl (by decide) rfl ?_
                  refine st_gu 3 59 rfl rfl (by decide) ?_
                  refine st_gu 3 59 rfl rfl (by decide) ?_
                  refine st_gu 3 59 rfl rfl (by decide) ?_
                  refine st_gu 3 59 rfl rfl (by decide) ?_
                  refine st_gu 3 59 rfl rfl (by decide) ?_
                  refine st_gu 3 59 rfl rfl (by decide) ?_
                  refine st_gu 3 59 rfl rfl (by decide) ?_
                  refine st_gn 1 57 rfl rfl (by decide) rfl ?_
                  refine st_q (v := .bool false) (x_pickF rfl rfl) ?_
                  refine st_q (v := .bool false) (x_assign rfl) ?_
                  refine st_nil ?_
                  refine kn164 _ _ ?_
                  refine kn160 _ _ ?_
                  refine region ?_
                  refine st_q (v := .int .i64 ((k : Nat) : Int)) (x_move rfl) ?_
                  refine st_q (v := .int .i64 (((k + 1) : Nat) : Int)) (x_addN rfl rfl (by omega)) ?_
                  refine st_q (v := .int .i64 (((k + 1) : Nat) : Int)) (x_assign rfl) ?_
                  refine st_nil ?_
                  refine kn143 _ ((k + 1), .slice a146 ((filt es (el left i) (R.take k)).length) c147, false) _ ⟨rfl, rfl, rfl, rfl, rfl, rfl, rfl, rfl, trivial⟩ ⟨hF255, ?_⟩ ?_
                  ·
                    try dsimp only
                    exact ⟨by omega, by rw [filt_no (by omega) hnk]; exact hF256, fr_step hfr ⟨fun h => (by cases h), fun h => absurd h.1 (by assumption)⟩⟩
                  ·
                    (try dsimp only); omega
            ·
              refine exit ?_
              refine ke153 _ _ _ ?_
              refine ke145 _ _ _ ?_
              refine kb130 _ _ ?_
              refine kn119 _ _ ?_
              refine seqK fun Q281 kn282 kr283 ke284 => ?_
              refine region ?_
              refine st_q (v := .bool fr) (x_move rfl) ?_
              refine st_nil ?_
              refine kn282 _ _ ?_
              refine cndB (b := fr) rfl (fun h285 => ?_) (fun h285 => ?_)
              ·
                refine seqK fun Q286 kn287 kr288 ke289 => ?_
                refine region ?_
                have hptR : R.take k = R := List.take_of_length_le (by omega)
                have hf : FreeIn es left (el left i) := (fr_free hR).1 fun q hq => hfr.1 (by assumption) q (by omega)
                obtain ⟨rest2, hrest, hG2, hlt⟩ := hGr.scan (by omega) hno hf (filt_SX hR.1) (fun z => filt_mut hR)
                rw [← hptR] at hrest hG2 hlt
                have hRO2 := hRO.ext hF135
                have hOl2 := hOl.ext hF135
                refine st_q (v := .slice a38 us.length c39) (x_move rfl) ?_
                refine st_q (v := .slice a146 ((filt es (el left i) (R.take k)).length) c147) (x_move rfl) ?_
                refine st_e (e_buildSlice (cs := [.slice a146 ((filt es (el left i) (R.take k)).length) c147]) (e := 22) (fun _ => by kernel_rfl) ?_)
                intro w290 hA291
                have hx292 := hA291.ext
                have hs293 := hA291.size
                have hB294 : Blk w290.heap w133.heap.size [.slice a146 ((filt es (el left i) (R.take k)).length) c147] 22 := hA291.new
                have hF295 := hF136.ext hx292
                have hF296 := hOp.ext hx292
                have hF297 := RowsO.ext hRO2 hx292
                have hF298 := hOl2.ext hx292
                have hE299 : Below w0.heap.size w0 w290 := hx292.e hE139 (Nat.le_refl _)
                have hz300 := hE299.le
                have hs301 := hx292.size
                refine st_e (e_appendX T.sl26 rfl rfl hF295 (hB294.src1 (k := 1) (m := 1) rfl (by omega)) (ones (by rfl)) (by omega) (by decide) (by omega) ?_)
                intro v302 w303 hO304 hG305 hN306 hW307
                have hF308 := hF296.gk (hG305) (hF295.rowk) (by decide)
                have hF309 := RowsO.gk hF297 (hG305) (hF295.rowk) (by decide)
                have hF310 := hF298.gk (hG305) (hF295.rowk) (by decide)
                have hE311 : Below w0.heap.size w0 w303 := grown_below hG305 hE299 (Nat.le_refl _) (fun b hb => (by have := (hF295.lt hb).1; clear hb; omega))
                have hz312 := hE311.le
                have hs313 := hG305.size
                have hO314 := Own.snoc (enc := enV) (u := .slice a146 ((filt es (el left i) (R.take k)).length) c147) hO304
                obtain ⟨a315, c316, rfl, hm317, hm318⟩ := hO314.src.form
                refine st_q (v := .slice a315 ((us.length + 1)) c316) (x_assign rfl) ?_
                refine st_nil ?_
                refine kn287 _ _ ?_
                refine seqK fun Q319 kn320 kr321 ke322 => ?_
                refine region ?_
                refine st_q (v := .slice al left.length cl) (x_move rfl) ?_
                refine st_q (v := .slice a146 ((filt es (el left i) (R.take k)).length) c147) (x_move rfl) ?_
                refine st_c (t_call [.slice al left.length cl, .slice a146 ((filt es (el left i) (R.take k)).length) c147] T.cf45 rfl rfl) (without45 left (filt es (el left i) (R.take k)) _ _ _ hF310.src hF308.src (by omega)) ?_
                rintro _ w323 ⟨v325, rfl, hx324, hO326⟩
                refine ⟨_, rfl, ?_⟩
                have hF327 := hF308.ext hx324
                have hF328 := RowsO.ext hF309 hx324
                have hF329 := hF310.ext hx324
                have hF330 := hO314.ext hx324
                have hE331 : Below w0.heap.size w0 w323 := hx324.e hE311 (Nat.le_refl _)
                have hz332 := hE331.le
                have hs333 := hx324.size
                refine st_q (v := v325) (x_assign rfl) ?_
                refine st_nil ?_
                refine kn320 _ _ ?_
                refine exit ?_
                refine kx94 _ _ _ rfl ?_
                refine ke90 _ _ _ ?_
                refine ke77 _ _ _ ?_
                refine kb64 _ _ ?_
                refine kn52 _ _ ?_
                refine kn35 _ ((wo left (filt es (el left i) (R.take k))), v325, .slice a315 ((us.length + 1)) c316, (us ++ [.slice a146 ((filt es (el left i) (R.take k)).length) c147]), (dn ++ [(filt es (el left i) (R.take k))]), rest2) _ ⟨rfl, rfl, rfl, trivial⟩ ⟨hE331, ?_⟩ ?_
                ·
                  try dsimp only
                  exact ⟨by rw [hP, hrest]; simp, hG2, by rw [List.length_append]; simp only [List.length_singleton]; omega, hO326.weak (by omega), Own.len hF330 (by simp), RowsO.snoc hF328 (hF327.weak (by omega))⟩
                ·
                  (try dsimp only); omega
              ·
                refine skip ?_
                refine kn92 _ _ ?_
                refine kn88 _ _ ?_
                refine region ?_
                refine st_q (v := .int .i64 ((i : Nat) : Int)) (x_move rfl) ?_
                refine st_q (v := .int .i64 (((i + 1) : Nat) : Int)) (x_addN rfl rfl (by omega)) ?_
                refine st_q (v := .int .i64 (((i + 1) : Nat) : Int)) (x_assign rfl) ?_
                refine st_nil ?_
                refine kn75 _ ((i + 1)) _ ⟨rfl, rfl, rfl, rfl, trivial⟩ ⟨hF137, ?_⟩ ?_
                ·
                  try dsimp only
                  refine ⟨by omega, fun j hj => ?_⟩
                  by_cases e : j = i
                  · subst e
                    intro hf
                    exact absurd (hfr.2 fun q hq => (fr_free hR).2 hf q (by omega)) (by rw [show fr = false from by assumption]; decide)
                  · exact hno j (by omega)
                ·
                  (try dsimp only); omega
        ·
          exact absurd h86 (not_not_intro (hGr.free_lt (by omega) hno))
    ·
      refine exit ?_
      refine ke45 _ _ _ ?_
      refine ke37 _ _ _ ?_
      refine kb28 _ _ ?_
      refine kn21 _ _ ?_
      refine seqK fun Q334 kn335 kr336 ke337 => ?_
      refine region ?_
      refine st_q (v := .slice a38 us.length c39) (x_move rfl) ?_
      refine st_q (v := .slice a38 us.length c39) (x_assign rfl) ?_
      refine st_nil ?_
      refine kn335 _ _ ?_
      refine ret ?_
      refine leave1 (P := Try.prog) (fn := Try.f12) (t := 4) (v := .slice a38 us.length c39) rfl rfl ?_
      have hl0 : left = [] := List.eq_nil_of_length_eq_zero (by omega)
      rw [hl0] at hGr
      rw [hGr.nil_of, List.append_nil] at hP
      subst hP
      exact ⟨_, us, rfl, hx32, Own.len hOo hul, hRO⟩

end Go.Proofs.Ytknfjgbipfpnjaa
