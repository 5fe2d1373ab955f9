import Derived.Test.YtknfjgbipfpnjaaG22
namespace Go.Proofs.Ytknfjgbipfpnjaa
open Go.RowKit Go.Eng Go.OrdPure
open Go.Knot Go.HeapPure
theorem T.cf17 : CF Try.prog 17 := fun _ _ => by kernel_rfl
theorem T.cf19 : CF Try.prog 19 := fun _ _ => by kernel_rfl

theorem own_addr {b o m c : Nat} {a : Option Addr} (ha : a = some ⟨b, o, none⟩) : (Value.slice a m c).ownBlock = some b := by rw [ha]; rfl
theorem RowK.of {h : Array Obj} {v : Value} {K b : Nat} (hr : RowK h v.ownBlock K) (hb : v.ownBlock = some b) : RowK h (some b) K := hb ▸ hr
theorem x_neqBB {P : Program} {n : Nat} {σ : Nat → Value} {w : World} {ty t t' : TypeId} {x y : Operand} {a b : Bool} (hT : P.underlying t = some .bool) (hx : ev n σ x = .bool a) (hy : ev n σ y = .bool b) : Ex P (ev n σ) w (.binOp .neq t x y t') ty (.bool (decide (a ≠ b))) := by
  have := x_neqB (P := P) (n := n) (σ := σ) (w := w) (ty := ty) (t' := t') (p := a = true) (q := b = true) hT (by rw [hx]; cases a <;> rfl) (by rw [hy]; cases b <;> rfl)
  cases a <;> cases b <;> exact this
theorem flat_enV : ∀ cs : List Value, flat enV cs = cs
  | [] => rfl
  | c :: cs => by
    have := flat_enV cs
    unfold flat at *; rw [List.flatMap_cons, this]; rfl
theorem e_stC {P : Program} {n : Nat} {σ : Nat → Value} {w : World} {ty t : TypeId} {K : Value → World → Prop} {x y : Operand} {lo m c k b o q j : Nat} {a : Option Addr} {v : Value} {cs : List Value} {T : TypeId} (hs : SZ P t 1) (hx : ev n σ x = .pointer (some ⟨b, q, none⟩)) (hy : ev n σ y = v) (hv : v.cells.toList = [v]) (h1 : v.oneCell' = true)
    (ho : Own w.heap lo T k (.slice a m c) m cs) (ha : a = some ⟨b, o, none⟩) (hq : q = o + j) (hj : j < m * k)
    (kk : ∀ w', w.grownBy w' (some b) → w'.heap.size = w.heap.size → Own w'.heap lo T k (.slice a m c) m (cs.set j v) → K undef w') : Eff P (ev n σ) w (.store t x y) ty K := by
  obtain ⟨hl, ⟨e, _⟩ | ⟨b', c', R, e, hlo, hB, hm, hc, hR⟩⟩ := ho
  · rw [ha] at e; cases e
  · rw [ha] at e
    injection e with e1 _ e3
    injection e1 with e1
    injection e1 with e4 e5
    subst e4; subst e5; subst e3; subst hq
    have hB2 : Blk w.heap b (flat enV cs ++ R) T := by rw [flat_enV]; exact hB
    refine e_stE (enc := enV) (u := v) enV_len (i := j) hs (by rw [hx, Nat.mul_one]) hy hv hB2 (by omega) (by simp [enV, h1]) fun w' hp => kk w' hp.grownBy hp.size ⟨by rw [List.length_set]; exact hl, .inr ⟨b, c, R, by rw [ha], hlo, ?_, hm, hc, ?_⟩⟩
    · have h2 := hp.new
      rw [flat_enV] at h2; exact h2
    · rw [List.length_append, List.length_set, ← List.length_append]; exact hR
set_option maxHeartbeats 4000000 in
theorem levels4 (xs : List ByteArray) (es : List Edge) (va vb : Value) (w0 : World) (ha : Src w0.heap va xs.length 1 (flat enS xs)) (hb : Src w0.heap vb es.length 3 (flat enE es)) (hfx : FitS xs) (hfe : FitE es) (hn1 : xs.length + 4 * es.length + 2 ≤ 1048576) : Calls Try.prog 4 #[va, vb] w0 fun e w' => e = .returned (.bool true) ∧ Below w0.heap.size w0 w' := by
  have hE0 : Below w0.heap.size w0 w0 := Below.refl _ _
  have hz0 := hE0.le
  obtain ⟨a, ca, rfl, hca, hca1⟩ := ha.form
  obtain ⟨b, cb, rfl, hcb, hcb1⟩ := hb.form
  have hn : xs.length + 2 * es.length ≤ 2097152 := by omega
  refine enter Try.func4 rfl 117 Try.ntmps4 rfl ?_
  refine seqK fun Q1 kn2 kr3 ke4 => ?_
  refine region ?_
  refine st_q (v := .bool false) (x_assign rfl) ?_
  refine st_nil ?_
  refine kn2 _ _ ?_
  refine seqK fun Q5 kn6 kr7 ke8 => ?_
  refine region ?_
  refine st_q (v := .slice a xs.length ca) (x_move rfl) ?_
  refine st_c (t_call [.slice a xs.length ca] T.cf9 rfl rfl) (lentNames9 xs _ _ (ha.below hE0) (by omega)) ?_
  rintro _ w9 ⟨am, cm, rfl, hx10, hmc, hO_m, hmc2⟩
  refine ⟨_, rfl, ?_⟩
  have hE11 : Below w0.heap.size w0 w9 := hx10.e hE0 (Nat.le_refl _)
  have hz12 := hE11.le
  have hs13 := hx10.size
  have hlo_m : ∀ b, (.slice am (xs.length + 1) cm : Value).ownBlock = some b → w0.heap.size ≤ b ∧ b < w9.heap.size := fun b hb => hO_m.lt hb
  refine st_q (v := .slice b es.length cb) (x_move rfl) ?_
  refine st_c (t_call [.slice b es.length cb] T.cf10 rfl rfl) (lentEdges10 es _ _ (hb.below hE11) (by omega)) ?_
  rintro _ w14 ⟨ax, cx, rfl, hx15, hxc, hO_x, hxc2⟩
  refine ⟨_, rfl, ?_⟩
  have hF16 := hO_m.ext hx15
  have hE17 : Below w0.heap.size w0 w14 := hx15.e hE11 (Nat.le_refl _)
  have hz18 := hE17.le
  have hs19 := hx15.size
  have hlo_x : ∀ b, (.slice ax (es.length + 1) cx : Value).ownBlock = some b → w9.heap.size ≤ b ∧ b < w14.heap.size := fun b hb => hO_x.lt hb
  refine st_q (v := .slice am xs.length cm) (x_assign rfl) ?_
  refine st_q (v := .slice ax es.length cx) (x_assign rfl) ?_
  refine st_nil ?_
  refine kn6 _ _ ?_
  refine seqK fun Q20 kn21 kr22 ke23 => ?_
  refine region ?_
  refine st_q (v := .slice am xs.length cm) (x_move rfl) ?_
  refine st_q (v := .slice ax es.length cx) (x_move rfl) ?_
  refine st_c (t_call [.slice am xs.length cm, .slice ax es.length cx] T.cf16 rfl rfl) (levels16 xs es _ _ _ (Src.front enS_len hF16.src) (Src.front enE_len hO_x.src) hfx hfe hn) ?_
  rintro _ w24 (⟨hn28, rfl, hx25⟩ | ⟨hn28, v26, lev, rfl, hx25, hIs_a, hO27⟩)
  ·
    refine ⟨_, rfl, ?_⟩
    have hF29 := hF16.ext hx25
    have hF30 := hO_x.ext hx25
    have hE31 : Below w0.heap.size w0 w24 := hx25.e hE17 (Nat.le_refl _)
    have hz32 := hE31.le
    have hs33 := hx25.size
    refine st_q (v := .tuple #[.slice none 0 0, .int .i64 ((15 : Nat) : Int)]) (x_move rfl) ?_
    refine st_q (v := .slice none 0 0) (x_extract rfl rfl) ?_
    refine st_q (v := .int .i64 ((15 : Nat) : Int)) (x_extract rfl rfl) ?_
    refine st_q (v := .slice none 0 0) (x_assign rfl) ?_
    refine st_q (v := .int .i64 ((15 : Nat) : Int)) (x_assign rfl) ?_
    refine st_nil ?_
    refine kn21 _ _ ?_
    refine seqK fun Q34 kn35 kr36 ke37 => ?_
    refine region ?_
    refine st_q (v := .slice a xs.length ca) (x_move rfl) ?_
    refine st_q (v := .slice b es.length cb) (x_move rfl) ?_
    refine st_c (t_call [.slice a xs.length ca, .slice b es.length cb] T.cf17 rfl rfl) (reflevels17 xs es _ _ _ (ha.below hE31) (hb.below hE31) hn (.inl hn28)) ?_
    rintro _ w38 (⟨_, rfl, hx39⟩ | ⟨hn42, _⟩)
    rotate_left
    · exact absurd hn28 hn42
    refine ⟨_, rfl, ?_⟩
    have hF43 := hF29.ext hx39
    have hF44 := hF30.ext hx39
    have hE45 : Below w0.heap.size w0 w38 := hx39.e hE31 (Nat.le_refl _)
    have hz46 := hE45.le
    have hs47 := hx39.size
    refine st_q (v := .tuple #[.slice none 0 0, .int .i64 ((15 : Nat) : Int)]) (x_move rfl) ?_
    refine st_q (v := .slice none 0 0) (x_extract rfl rfl) ?_
    refine st_q (v := .int .i64 ((15 : Nat) : Int)) (x_extract rfl rfl) ?_
    refine st_q (v := .slice none 0 0) (x_assign rfl) ?_
    refine st_q (v := .int .i64 ((15 : Nat) : Int)) (x_assign rfl) ?_
    refine st_nil ?_
    refine kn35 _ _ ?_
    refine seqK fun Q48 kn49 kr50 ke51 => ?_
    refine region ?_
    refine st_q (v := .slice ax es.length cx) (x_move rfl) ?_
    refine st_c (t_call [.slice ax es.length cx] T.cf18 rfl rfl) (cycle18 es _ _ (Src.front enE_len hF44.src) hfe (by omega)) ?_
    rintro _ w52 ⟨v54, row, ok, rfl, hx53, hC, hO55⟩
    refine ⟨_, rfl, ?_⟩
    have hF57 := hF43.ext hx53
    have hF58 := hF44.ext hx53
    have hE59 : Below w0.heap.size w0 w52 := hx53.e hE45 (Nat.le_refl _)
    have hz60 := hE59.le
    have hs61 := hx53.size
    obtain ⟨ad_c, ca_c, rfl, _, _⟩ := hO55.src.form
    have hlo_c : ∀ b, (.slice ad_c row.length ca_c : Value).ownBlock = some b → w38.heap.size ≤ b ∧ b < w52.heap.size := fun b hb => hO55.lt hb
    refine st_q (v := .tuple #[.slice ad_c row.length ca_c, .bool ok]) (x_move rfl) ?_
    refine st_q (v := .slice ad_c row.length ca_c) (x_extract rfl rfl) ?_
    refine st_q (v := .bool ok) (x_extract rfl rfl) ?_
    refine st_q (v := .slice ad_c row.length ca_c) (x_assign rfl) ?_
    refine st_q (v := .bool ok) (x_assign rfl) ?_
    refine st_nil ?_
    refine kn49 _ _ ?_
    refine seqK fun Q62 kn63 kr64 ke65 => ?_
    refine region ?_
    refine st_q (v := .slice b es.length cb) (x_move rfl) ?_
    refine st_c (t_call [.slice b es.length cb] T.cf19 rfl rfl) (refcycle19 es _ _ (hb.below hE59) (by omega)) ?_
    rintro _ w66 ⟨v68, row2, ok2, rfl, hx67, hC70, hO69⟩
    obtain ⟨er, eo⟩ := hC.uniq hC70
    subst er
    subst eo
    refine ⟨_, rfl, ?_⟩
    have hF71 := hF57.ext hx67
    have hF72 := hF58.ext hx67
    have hF73 := hO55.ext hx67
    have hE74 : Below w0.heap.size w0 w66 := hx67.e hE59 (Nat.le_refl _)
    have hz75 := hE74.le
    have hs76 := hx67.size
    obtain ⟨ad_d, ca_d, rfl, _, _⟩ := hO69.src.form
    have hlo_d : ∀ b, (.slice ad_d row.length ca_d : Value).ownBlock = some b → w52.heap.size ≤ b ∧ b < w66.heap.size := fun b hb => hO69.lt hb
    refine st_q (v := .tuple #[.slice ad_d row.length ca_d, .bool ok]) (x_move rfl) ?_
    refine st_q (v := .slice ad_d row.length ca_d) (x_extract rfl rfl) ?_
    refine st_q (v := .bool ok) (x_extract rfl rfl) ?_
    refine st_q (v := .slice ad_d row.length ca_d) (x_assign rfl) ?_
    refine st_q (v := .bool ok) (x_assign rfl) ?_
    refine st_nil ?_
    refine kn63 _ _ ?_
    refine seqK fun Q77 kn78 kr79 ke80 => ?_
    refine seqK fun Q81 kn82 kr83 ke84 => ?_
    refine region ?_
    refine st_q (v := .slice none 0 0) (x_move rfl) ?_
    refine st_q (v := .slice none 0 0) (x_move rfl) ?_
    refine st_c (t_call [.slice none 0 0, .slice none 0 0] T.cf20 rfl rfl) (sameRanks20 [] [] _ _ _ (Src.nil _ _) (Src.nil _ _)) ?_
    rintro _ w85 ⟨e87, hx86⟩
    rw [decide_eq_true rfl] at e87
    subst e87
    refine ⟨_, rfl, ?_⟩
    have hF88 := hF71.ext hx86
    have hF89 := hF72.ext hx86
    have hF90 := hF73.ext hx86
    have hF91 := hO69.ext hx86
    have hE92 : Below w0.heap.size w0 w85 := hx86.e hE74 (Nat.le_refl _)
    have hz93 := hE92.le
    have hs94 := hx86.size
    refine st_q (v := .bool false) (x_notB (b := true) rfl) ?_
    refine st_q (v := .bool false) (x_move rfl) ?_
    refine st_gq 4 51 rfl rfl (by decide) ?_
    refine st_q (v := .int .i64 ((15 : Nat) : Int)) (x_move rfl) ?_
    refine st_gq 4 51 rfl rfl (by decide) ?_
    refine st_c (t_call [.int .i64 ((15 : Nat) : Int)] T.cf21 rfl rfl) (num21 15 _) ?_
    rintro _ _ ⟨rfl, rfl⟩
    refine ⟨_, rfl, ?_⟩
    refine st_gq 4 51 rfl rfl (by decide) ?_
    refine st_q (v := .int .i64 ((15 : Nat) : Int)) (x_move rfl) ?_
    refine st_gq 4 51 rfl rfl (by decide) ?_
    refine st_q (v := .bool (decide (15 ≠ 15))) (x_neqN rfl rfl) ?_
    refine st_q (v := .bool (decide (15 ≠ 15))) (x_pickF rfl rfl) ?_
    refine st_if (p := 15 ≠ 15) (x_move rfl) (fun h95 => ?_) (fun h95 => ?_)
    ·
      exact absurd h95 (not_not_intro rfl)
    ·
      refine st_gq 10 57 rfl rfl (by decide) ?_
      refine st_q (v := .slice ad_c row.length ca_c) (x_move rfl) ?_
      refine st_gq 10 57 rfl rfl (by decide) ?_
      refine st_q (v := .slice ad_d row.length ca_d) (x_move rfl) ?_
      refine st_gq 10 57 rfl rfl (by decide) ?_
      refine st_c (t_call [.slice ad_c row.length ca_c, .slice ad_d row.length ca_d] T.cf22 rfl rfl) (sameInts22 row row _ _ _ hF90.src hF91.src) ?_
      rintro _ w96 ⟨e98, hx97⟩
      rw [decide_eq_true rfl] at e98
      subst e98
      refine ⟨_, rfl, ?_⟩
      have hF99 := hF88.ext hx97
      have hF100 := hF89.ext hx97
      have hF101 := hF90.ext hx97
      have hF102 := hF91.ext hx97
      have hE103 : Below w0.heap.size w0 w96 := hx97.e hE92 (Nat.le_refl _)
      have hz104 := hE103.le
      have hs105 := hx97.size
      refine st_gq 10 57 rfl rfl (by decide) ?_
      refine st_q (v := .bool false) (x_notB (b := true) rfl) ?_
      refine st_q (v := .bool false) (x_pickF rfl rfl) ?_
      refine st_q (v := .bool false) (x_move rfl) ?_
      refine st_gq 16 63 rfl rfl (by decide) ?_
      refine st_q (v := .bool ok) (x_move rfl) ?_
      refine st_gq 16 63 rfl rfl (by decide) ?_
      refine st_q (v := .bool ok) (x_move rfl) ?_
      refine st_gq 16 63 rfl rfl (by decide) ?_
      refine st_q (v := .bool (decide (ok ≠ ok))) (x_neqBB Try.underlying4 rfl rfl) ?_
      refine st_q (v := .bool (decide (ok ≠ ok))) (x_pickF rfl rfl) ?_
      refine st_if (p := ok ≠ ok) (x_move rfl) (fun h106 => ?_) (fun h106 => ?_)
      ·
        exact absurd h106 (not_not_intro rfl)
      ·
        refine st_gq 21 68 rfl rfl (by decide) ?_
        refine st_q (v := .slice am xs.length cm) (x_move rfl) ?_
        refine st_gq 21 68 rfl rfl (by decide) ?_
        refine st_q (v := .slice a xs.length ca) (x_move rfl) ?_
        refine st_gq 21 68 rfl rfl (by decide) ?_
        refine st_q (v := .slice ax es.length cx) (x_move rfl) ?_
        refine st_gq 21 68 rfl rfl (by decide) ?_
        refine st_q (v := .slice b es.length cb) (x_move rfl) ?_
        refine st_gq 21 68 rfl rfl (by decide) ?_
        refine st_c (t_call [.slice am xs.length cm, .slice a xs.length ca, .slice ax es.length cx, .slice b es.length cb] T.cf14 rfl rfl) (left14 xs es _ _ _ _ _ _ _ hF99.src (ha.below hE103) hF100.src (hb.below hE103)) ?_
        rintro _ w107 ⟨rfl, hx108⟩
        refine ⟨_, rfl, ?_⟩
        have hF109 := hF99.ext hx108
        have hF110 := hF100.ext hx108
        have hF111 := hF101.ext hx108
        have hF112 := hF102.ext hx108
        have hE113 : Below w0.heap.size w0 w107 := hx108.e hE103 (Nat.le_refl _)
        have hz114 := hE113.le
        have hs115 := hx108.size
        refine st_gq 21 68 rfl rfl (by decide) ?_
        refine st_q (v := .bool false) (x_notB (b := true) rfl) ?_
        refine st_q (v := .bool false) (x_pickF rfl rfl) ?_
        refine st_nil ?_
        refine kn82 _ _ ?_
        refine cndF rfl ?_
        refine skip ?_
        refine kn78 _ _ ?_
        refine seqK fun Q116 kn117 kr118 ke119 => ?_
        refine region ?_
        refine st_q (v := .slice am xs.length cm) (x_move rfl) ?_
        refine st_q (v := .slice ax es.length cx) (x_move rfl) ?_
        refine st_c (t_call [.slice am xs.length cm, .slice ax es.length cx] T.cf16 rfl rfl) (levels16 xs es _ _ _ (Src.front enS_len hF109.src) (Src.front enE_len hF110.src) hfx hfe hn) ?_
        rintro _ w120 (⟨_, rfl, hx121⟩ | ⟨hn124, _⟩)
        rotate_left
        · exact absurd hn28 hn124
        refine ⟨_, rfl, ?_⟩
        have hF125 := hF109.ext hx121
        have hF126 := hF110.ext hx121
        have hF127 := hF111.ext hx121
        have hF128 := hF112.ext hx121
        have hE129 : Below w0.heap.size w0 w120 := hx121.e hE113 (Nat.le_refl _)
        have hz130 := hE129.le
        have hs131 := hx121.size
        refine st_q (v := .tuple #[.slice none 0 0, .int .i64 ((15 : Nat) : Int)]) (x_move rfl) ?_
        refine st_q (v := .slice none 0 0) (x_extract rfl rfl) ?_
        refine st_q (v := .int .i64 ((15 : Nat) : Int)) (x_extract rfl rfl) ?_
        refine st_q (v := .slice none 0 0) (x_assign rfl) ?_
        refine st_q (v := .int .i64 ((15 : Nat) : Int)) (x_assign rfl) ?_
        refine st_nil ?_
        refine kn117 _ _ ?_
        refine seqK fun Q132 kn133 kr134 ke135 => ?_
        refine region ?_
        refine st_q (v := .slice ax es.length cx) (x_move rfl) ?_
        refine st_c (t_call [.slice ax es.length cx] T.cf18 rfl rfl) (cycle18 es _ _ (Src.front enE_len hF126.src) hfe (by omega)) ?_
        rintro _ w136 ⟨v138, row2, ok2, rfl, hx137, hC140, hO139⟩
        obtain ⟨er, eo⟩ := hC.uniq hC140
        subst er
        subst eo
        refine ⟨_, rfl, ?_⟩
        have hF141 := hF125.ext hx137
        have hF142 := hF126.ext hx137
        have hF143 := hF127.ext hx137
        have hF144 := hF128.ext hx137
        have hE145 : Below w0.heap.size w0 w136 := hx137.e hE129 (Nat.le_refl _)
        have hz146 := hE145.le
        have hs147 := hx137.size
        obtain ⟨ad_k, ca_k, rfl, _, _⟩ := hO139.src.form
        have hlo_k : ∀ b, (.slice ad_k row.length ca_k : Value).ownBlock = some b → w120.heap.size ≤ b ∧ b < w136.heap.size := fun b hb => hO139.lt hb
        refine st_q (v := .tuple #[.slice ad_k row.length ca_k, .bool ok]) (x_move rfl) ?_
        refine st_q (v := .slice ad_k row.length ca_k) (x_extract rfl rfl) ?_
        refine st_q (v := .bool ok) (x_extract rfl rfl) ?_
        refine st_q (v := .slice ad_k row.length ca_k) (x_assign rfl) ?_
        refine st_q (v := .bool ok) (x_assign rfl) ?_
        refine st_nil ?_
        refine kn133 _ _ ?_
        refine seqK fun Q148 kn149 kr150 ke151 => ?_
        refine seqK fun Q152 kn153 kr154 ke155 => ?_
        refine region ?_
        refine st_q (v := .int .i64 ((0 : Nat) : Int)) (x_assign rfl) ?_
        refine st_nil ?_
        refine kn153 _ _ ?_
        refine blockK fun Q156 kn157 kr158 kx159 kb160 => ?_
        refine loopK (α := Nat × (List Value)) (fun x => [(7, .slice none 0 0), (9, .slice none 0 0), (11, .slice ad_c row.length ca_c), (13, .slice ad_d row.length ca_d), (15, .slice none 0 0), (17, .slice ad_k row.length ca_k), (19, .int .i64 ((x.1 : Nat) : Int))]) (fun x w161 => Below w0.heap.size w0 w161 ∧ (x.1 ≤ 0 ∧ True) ∧ Own w161.heap w38.heap.size 3 1 (.slice ad_c row.length ca_c) row.length (flat enN row) ∧ Own w161.heap w52.heap.size 3 1 (.slice ad_d row.length ca_d) row.length (flat enN row) ∧ Own w161.heap w120.heap.size 3 1 (.slice ad_k row.length ca_k) row.length (flat enN row)) (fun x => 0 - x.1) (0, []) ⟨rfl, rfl, rfl, rfl, rfl, rfl, rfl, trivial⟩ ?_ ?_
        ·
          refine ⟨hE145, ?_⟩
          try dsimp only
          refine ⟨?_, hF143, hF144, hO139⟩
          exact ⟨Nat.zero_le _, trivial⟩
        ·
          rintro τ162 ⟨ia, qa⟩ w163 ⟨hx167, ⟨⟨hia, hqa⟩, hC164, hC165, hC166⟩⟩
          try dsimp only at hia hqa hC164 hC165 hC166
          have hz168 := hx167.le
          intro Q169 kn170 kr171 ke172
          refine seqK fun Q173 kn174 kr175 ke176 => ?_
          refine seqK fun Q177 kn178 kr179 ke180 => ?_
          refine region ?_
          refine st_q (v := .int .i64 ((ia : Nat) : Int)) (x_move rfl) ?_
          refine st_q (v := .slice none 0 0) (x_move rfl) ?_
          refine st_q (v := .int .i64 ((0 : Nat) : Int)) (x_lenSl rfl Try.underlying32 rfl) ?_
          refine st_q (v := .bool (decide (ia < 0))) (x_lssN rfl rfl) ?_
          refine st_nil ?_
          refine kn178 _ _ ?_
          refine cnd (p := ia < 0) rfl (fun h181 => ?_) (fun h181 => ?_)
          ·
            exact absurd h181 (by omega)
          ·
            refine exit ?_
            refine ke176 _ _ _ ?_
            refine ke172 _ _ _ ?_
            refine kb160 _ _ ?_
            refine kn149 _ _ ?_
            refine seqK fun Q182 kn183 kr184 ke185 => ?_
            refine seqK fun Q186 kn187 kr188 ke189 => ?_
            refine region ?_
            refine st_q (v := .int .i64 ((0 : Nat) : Int)) (x_assign rfl) ?_
            refine st_nil ?_
            refine kn187 _ _ ?_
            refine blockK fun Q190 kn191 kr192 kx193 kb194 => ?_
            refine loopK (α := Nat × (List Value)) (fun x => [(9, .slice none 0 0), (11, .slice ad_c row.length ca_c), (13, .slice ad_d row.length ca_d), (15, .slice none 0 0), (17, .slice ad_k row.length ca_k), (20, .int .i64 ((x.1 : Nat) : Int))]) (fun x w195 => Below w0.heap.size w0 w195 ∧ (x.1 ≤ row.length ∧ Own w195.heap w38.heap.size 3 1 (.slice ad_c row.length ca_c) row.length x.2) ∧ Own w195.heap w52.heap.size 3 1 (.slice ad_d row.length ca_d) row.length (flat enN row) ∧ Own w195.heap w120.heap.size 3 1 (.slice ad_k row.length ca_k) row.length (flat enN row)) (fun x => row.length - x.1) (0, (flat enN row)) ⟨rfl, rfl, rfl, rfl, rfl, rfl, trivial⟩ ?_ ?_
            ·
              refine ⟨hx167, ?_⟩
              try dsimp only
              refine ⟨?_, hC165, hC166⟩
              exact ⟨Nat.zero_le _, hC164⟩
            ·
              rintro τ196 ⟨ic, qc⟩ w197 ⟨hx200, ⟨⟨hic, hqc⟩, hC198, hC199⟩⟩
              try dsimp only at hic hqc hC198 hC199
              have hz201 := hx200.le
              intro Q202 kn203 kr204 ke205
              refine seqK fun Q206 kn207 kr208 ke209 => ?_
              refine seqK fun Q210 kn211 kr212 ke213 => ?_
              refine region ?_
              refine st_q (v := .int .i64 ((ic : Nat) : Int)) (x_move rfl) ?_
              refine st_q (v := .slice ad_c row.length ca_c) (x_move rfl) ?_
              refine st_q (v := .int .i64 ((row.length : Nat) : Int)) (x_lenSl rfl Try.underlying38 rfl) ?_
              refine st_q (v := .bool (decide (ic < row.length))) (x_lssN rfl rfl) ?_
              refine st_nil ?_
              refine kn211 _ _ ?_
              refine cnd (p := ic < row.length) rfl (fun h214 => ?_) (fun h214 => ?_)
              ·
                refine skip ?_
                refine kn207 _ _ ?_
                refine seqK fun Q215 kn216 kr217 ke218 => ?_
                refine blockK fun Q219 kn220 kr221 kx222 kb223 => ?_
                refine region ?_
                refine st_q (v := .slice ad_c row.length ca_c) (x_move rfl) ?_
                refine st_q (v := .int .i64 ((ic : Nat) : Int)) (x_move rfl) ?_
                obtain ⟨b224, o225, ha226, hc227⟩ := hqc.src.at (by omega)
                refine st_q (v := .pointer (some ⟨b224, o225 + ic * 1, none⟩)) (x_index' T.sl38 rfl ha226 rfl (by omega)) ?_
                have hbk232 := own_addr (m := row.length) (c := ca_c) ha226
                refine st_s (e_stC (v := .int .i64 (-5)) (j := ic * 1) T.sz3 rfl rfl rfl rfl hqc ha226 (by omega) (by omega) ?_)
                intro w228 hG229 hs230 hO231
                have hE233 : Below w0.heap.size w0 w228 := grown_below hG229 hx200 (Nat.le_refl _) (fun z e => by have e := Option.some.inj e; subst e; have := hlo_c _ hbk232; omega)
                have hz234 := hE233.le
                have hF235 := hC198.grown hG229 (fun z h1 h2 => by have h2 := Option.some.inj h2; subst h2; have g1 := hlo_d _ h1; have g2 := hlo_c _ hbk232; omega)
                have hF236 := hC199.grown hG229 (fun z h1 h2 => by have h2 := Option.some.inj h2; subst h2; have g1 := hlo_k _ h1; have g2 := hlo_c _ hbk232; omega)
                refine st_nil ?_
                refine kn220 _ _ ?_
                refine kn216 _ _ ?_
                refine region ?_
                refine st_q (v := .int .i64 ((ic : Nat) : Int)) (x_move rfl) ?_
                refine st_q (v := .int .i64 (((ic + 1) : Nat) : Int)) (x_addN rfl rfl (by omega)) ?_
                refine st_q (v := .int .i64 (((ic + 1) : Nat) : Int)) (x_assign rfl) ?_
                refine st_nil ?_
                refine kn203 _ ((ic + 1), (qc.set (ic * 1) (.int .i64 (-5)))) _ ⟨rfl, rfl, rfl, rfl, rfl, rfl, trivial⟩ ⟨hE233, ?_⟩ ?_
                ·
                  try dsimp only
                  refine ⟨?_, hF235, hF236⟩
                  exact ⟨by omega, hO231⟩
                ·
                  (try dsimp only); omega
              ·
                refine exit ?_
                refine ke209 _ _ _ ?_
                refine ke205 _ _ _ ?_
                refine kb194 _ _ ?_
                refine kn183 _ _ ?_
                refine seqK fun Q237 kn238 kr239 ke240 => ?_
                refine region ?_
                refine st_q (v := .slice none 0 0) (x_move rfl) ?_
                refine st_q (v := .slice none 0 0) (x_move rfl) ?_
                refine st_c (t_call [.slice none 0 0, .slice none 0 0] T.cf20 rfl rfl) (sameRanks20 [] [] _ _ _ (Src.nil _ _) (Src.nil _ _)) ?_
                rintro _ w241 ⟨e243, hx242⟩
                rw [decide_eq_true rfl] at e243
                subst e243
                refine ⟨_, rfl, ?_⟩
                have hF244 := hC198.ext hx242
                have hF245 := hC199.ext hx242
                have hF246 := hqc.ext hx242
                have hE247 : Below w0.heap.size w0 w241 := hx242.e hx200 (Nat.le_refl _)
                have hz248 := hE247.le
                have hs249 := hx242.size
                refine st_q (v := .bool true) (x_move rfl) ?_
                refine st_gq 3 109 rfl rfl (by decide) ?_
                refine st_q (v := .slice ad_k row.length ca_k) (x_move rfl) ?_
                refine st_gq 3 109 rfl rfl (by decide) ?_
                refine st_q (v := .slice ad_d row.length ca_d) (x_move rfl) ?_
                refine st_gq 3 109 rfl rfl (by decide) ?_
                refine st_c (t_call [.slice ad_k row.length ca_k, .slice ad_d row.length ca_d] T.cf22 rfl rfl) (sameInts22 row row _ _ _ hF245.src hF244.src) ?_
                rintro _ w250 ⟨e252, hx251⟩
                rw [decide_eq_true rfl] at e252
                subst e252
                refine ⟨_, rfl, ?_⟩
                have hF253 := hF244.ext hx251
                have hF254 := hF245.ext hx251
                have hF255 := hF246.ext hx251
                have hE256 : Below w0.heap.size w0 w250 := hx251.e hE247 (Nat.le_refl _)
                have hz257 := hE256.le
                have hs258 := hx251.size
                refine st_q (v := .bool true) (x_pickT rfl rfl) ?_
                refine st_q (v := .bool true) (x_move rfl) ?_
                refine st_gq 8 114 rfl rfl (by decide) ?_
                refine st_c (t_call [] T.cf15 rfl rfl) (known15 _) ?_
                rintro _ w259 ⟨rfl, hx260⟩
                refine ⟨_, rfl, ?_⟩
                have hF261 := hF253.ext hx260
                have hF262 := hF254.ext hx260
                have hF263 := hF255.ext hx260
                have hE264 : Below w0.heap.size w0 w259 := hx260.e hE256 (Nat.le_refl _)
                have hz265 := hE264.le
                have hs266 := hx260.size
                refine st_q (v := .bool true) (x_pickT rfl rfl) ?_
                refine st_q (v := .bool true) (x_assign rfl) ?_
                refine st_nil ?_
                refine kn238 _ _ ?_
                refine ret ?_
                refine leave1 (P := Try.prog) (fn := Try.f4) (t := 4) (v := .bool true) rfl rfl ?_
                exact ⟨rfl, hE264⟩
  ·
    refine ⟨_, rfl, ?_⟩
    have hF267 := hF16.ext hx25
    have hF268 := hO_x.ext hx25
    have hE269 : Below w0.heap.size w0 w24 := hx25.e hE17 (Nat.le_refl _)
    have hz270 := hE269.le
    have hs271 := hx25.size
    have hO272 := Own.len hO27 (ranksOf_len (nodesL xs es) lev).symm
    obtain ⟨ad_a, ca_a, rfl, _, _⟩ := hO272.src.form
    have hlo_a : ∀ b, (.slice ad_a (ranksOf (nodesL xs es) lev).length ca_a : Value).ownBlock = some b → w14.heap.size ≤ b ∧ b < w24.heap.size := fun b hb => hO272.lt hb
    refine st_q (v := .tuple #[.slice ad_a ((ranksOf (nodesL xs es) lev).length) ca_a, .int .i64 ((0 : Nat) : Int)]) (x_move rfl) ?_
    refine st_q (v := .slice ad_a ((ranksOf (nodesL xs es) lev).length) ca_a) (x_extract rfl rfl) ?_
    refine st_q (v := .int .i64 ((0 : Nat) : Int)) (x_extract rfl rfl) ?_
    refine st_q (v := .slice ad_a ((ranksOf (nodesL xs es) lev).length) ca_a) (x_assign rfl) ?_
    refine st_q (v := .int .i64 ((0 : Nat) : Int)) (x_assign rfl) ?_
    refine st_nil ?_
    refine kn21 _ _ ?_
    refine seqK fun Q272 kn273 kr274 ke275 => ?_
    refine region ?_
    refine st_q (v := .slice a xs.length ca) (x_move rfl) ?_
    refine st_q (v := .slice b es.length cb) (x_move rfl) ?_
    refine st_c (t_call [.slice a xs.length ca, .slice b es.length cb] T.cf17 rfl rfl) (reflevels17 xs es _ _ _ (ha.below hE269) (hb.below hE269) hn (.inr ⟨lev, hIs_a⟩)) ?_
    rintro _ w276 (⟨hn280, _⟩ | ⟨_, v278, lev2, rfl, hx277, hIs_b, hO279⟩)
    · exact absurd hn280 hn28
    refine ⟨_, rfl, ?_⟩
    have hF281 := hF267.ext hx277
    have hF282 := hF268.ext hx277
    have hF283 := hO272.ext hx277
    have hE284 : Below w0.heap.size w0 w276 := hx277.e hE269 (Nat.le_refl _)
    have hz285 := hE284.le
    have hs286 := hx277.size
    have hO2792 := Own.len hO279 (ranksOf_len (nodesL xs es) lev2).symm
    obtain ⟨ad_b, ca_b, rfl, _, _⟩ := hO2792.src.form
    have hlo_b : ∀ b, (.slice ad_b (ranksOf (nodesL xs es) lev2).length ca_b : Value).ownBlock = some b → w24.heap.size ≤ b ∧ b < w276.heap.size := fun b hb => hO2792.lt hb
    have e_b : (ranksOf (nodesL xs es) lev) = (ranksOf (nodesL xs es) lev2) := hIs_a.uniq hIs_b
    refine st_q (v := .tuple #[.slice ad_b ((ranksOf (nodesL xs es) lev2).length) ca_b, .int .i64 ((0 : Nat) : Int)]) (x_move rfl) ?_
    refine st_q (v := .slice ad_b ((ranksOf (nodesL xs es) lev2).length) ca_b) (x_extract rfl rfl) ?_
    refine st_q (v := .int .i64 ((0 : Nat) : Int)) (x_extract rfl rfl) ?_
    refine st_q (v := .slice ad_b ((ranksOf (nodesL xs es) lev2).length) ca_b) (x_assign rfl) ?_
    refine st_q (v := .int .i64 ((0 : Nat) : Int)) (x_assign rfl) ?_
    refine st_nil ?_
    refine kn273 _ _ ?_
    refine seqK fun Q287 kn288 kr289 ke290 => ?_
    refine region ?_
    refine st_q (v := .slice ax es.length cx) (x_move rfl) ?_
    refine st_c (t_call [.slice ax es.length cx] T.cf18 rfl rfl) (cycle18 es _ _ (Src.front enE_len hF282.src) hfe (by omega)) ?_
    rintro _ w291 ⟨v293, row, ok, rfl, hx292, hC, hO294⟩
    refine ⟨_, rfl, ?_⟩
    have hF296 := hF281.ext hx292
    have hF297 := hF282.ext hx292
    have hF298 := hF283.ext hx292
    have hF299 := hO2792.ext hx292
    have hE300 : Below w0.heap.size w0 w291 := hx292.e hE284 (Nat.le_refl _)
    have hz301 := hE300.le
    have hs302 := hx292.size
    obtain ⟨ad_c, ca_c, rfl, _, _⟩ := hO294.src.form
    have hlo_c : ∀ b, (.slice ad_c row.length ca_c : Value).ownBlock = some b → w276.heap.size ≤ b ∧ b < w291.heap.size := fun b hb => hO294.lt hb
    refine st_q (v := .tuple #[.slice ad_c row.length ca_c, .bool ok]) (x_move rfl) ?_
    refine st_q (v := .slice ad_c row.length ca_c) (x_extract rfl rfl) ?_
    refine st_q (v := .bool ok) (x_extract rfl rfl) ?_
    refine st_q (v := .slice ad_c row.length ca_c) (x_assign rfl) ?_
    refine st_q (v := .bool ok) (x_assign rfl) ?_
    refine st_nil ?_
    refine kn288 _ _ ?_
    refine seqK fun Q303 kn304 kr305 ke306 => ?_
    refine region ?_
    refine st_q (v := .slice b es.length cb) (x_move rfl) ?_
    refine st_c (t_call [.slice b es.length cb] T.cf19 rfl rfl) (refcycle19 es _ _ (hb.below hE300) (by omega)) ?_
    rintro _ w307 ⟨v309, row2, ok2, rfl, hx308, hC311, hO310⟩
    obtain ⟨er, eo⟩ := hC.uniq hC311
    subst er
    subst eo
    refine ⟨_, rfl, ?_⟩
    have hF312 := hF296.ext hx308
    have hF313 := hF297.ext hx308
    have hF314 := hF298.ext hx308
    have hF315 := hF299.ext hx308
    have hF316 := hO294.ext hx308
    have hE317 : Below w0.heap.size w0 w307 := hx308.e hE300 (Nat.le_refl _)
    have hz318 := hE317.le
    have hs319 := hx308.size
    obtain ⟨ad_d, ca_d, rfl, _, _⟩ := hO310.src.form
    have hlo_d : ∀ b, (.slice ad_d row.length ca_d : Value).ownBlock = some b → w291.heap.size ≤ b ∧ b < w307.heap.size := fun b hb => hO310.lt hb
    refine st_q (v := .tuple #[.slice ad_d row.length ca_d, .bool ok]) (x_move rfl) ?_
    refine st_q (v := .slice ad_d row.length ca_d) (x_extract rfl rfl) ?_
    refine st_q (v := .bool ok) (x_extract rfl rfl) ?_
    refine st_q (v := .slice ad_d row.length ca_d) (x_assign rfl) ?_
    refine st_q (v := .bool ok) (x_assign rfl) ?_
    refine st_nil ?_
    refine kn304 _ _ ?_
    refine seqK fun Q320 kn321 kr322 ke323 => ?_
    refine seqK fun Q324 kn325 kr326 ke327 => ?_
    refine region ?_
    refine st_q (v := .slice ad_a ((ranksOf (nodesL xs es) lev).length) ca_a) (x_move rfl) ?_
    refine st_q (v := .slice ad_b ((ranksOf (nodesL xs es) lev2).length) ca_b) (x_move rfl) ?_
    refine st_c (t_call [.slice ad_a ((ranksOf (nodesL xs es) lev).length) ca_a, .slice ad_b ((ranksOf (nodesL xs es) lev2).length) ca_b] T.cf20 rfl rfl) (sameRanks20 (ranksOf (nodesL xs es) lev) (ranksOf (nodesL xs es) lev2) _ _ _ hF314.src hF315.src) ?_
    rintro _ w328 ⟨e330, hx329⟩
    rw [decide_eq_true e_b] at e330
    subst e330
    refine ⟨_, rfl, ?_⟩
    have hF331 := hF312.ext hx329
    have hF332 := hF313.ext hx329
    have hF333 := hF314.ext hx329
    have hF334 := hF315.ext hx329
    have hF335 := hF316.ext hx329
    have hF336 := hO310.ext hx329
    have hE337 : Below w0.heap.size w0 w328 := hx329.e hE317 (Nat.le_refl _)
    have hz338 := hE337.le
    have hs339 := hx329.size
    refine st_q (v := .bool false) (x_notB (b := true) rfl) ?_
    refine st_q (v := .bool false) (x_move rfl) ?_
    refine st_gq 4 51 rfl rfl (by decide) ?_
    refine st_q (v := .int .i64 ((0 : Nat) : Int)) (x_move rfl) ?_
    refine st_gq 4 51 rfl rfl (by decide) ?_
    refine st_c (t_call [.int .i64 ((0 : Nat) : Int)] T.cf21 rfl rfl) (num21 0 _) ?_
    rintro _ _ ⟨rfl, rfl⟩
    refine ⟨_, rfl, ?_⟩
    refine st_gq 4 51 rfl rfl (by decide) ?_
    refine st_q (v := .int .i64 ((0 : Nat) : Int)) (x_move rfl) ?_
    refine st_gq 4 51 rfl rfl (by decide) ?_
    refine st_q (v := .bool (decide (0 ≠ 0))) (x_neqN rfl rfl) ?_
    refine st_q (v := .bool (decide (0 ≠ 0))) (x_pickF rfl rfl) ?_
    refine st_if (p := 0 ≠ 0) (x_move rfl) (fun h340 => ?_) (fun h340 => ?_)
    ·
      exact absurd h340 (not_not_intro rfl)
    ·
      refine st_gq 10 57 rfl rfl (by decide) ?_
      refine st_q (v := .slice ad_c row.length ca_c) (x_move rfl) ?_
      refine st_gq 10 57 rfl rfl (by decide) ?_
      refine st_q (v := .slice ad_d row.length ca_d) (x_move rfl) ?_
      refine st_gq 10 57 rfl rfl (by decide) ?_
      refine st_c (t_call [.slice ad_c row.length ca_c, .slice ad_d row.length ca_d] T.cf22 rfl rfl) (sameInts22 row row _ _ _ hF335.src hF336.src) ?_
      rintro _ w341 ⟨e343, hx342⟩
      rw [decide_eq_true rfl] at e343
      subst e343
      refine ⟨_, rfl, ?_⟩
      have hF344 := hF331.ext hx342
      have hF345 := hF332.ext hx342
      have hF346 := hF333.ext hx342
      have hF347 := hF334.ext hx342
      have hF348 := hF335.ext hx342
      have hF349 := hF336.ext hx342
      have hE350 : Below w0.heap.size w0 w341 := hx342.e hE337 (Nat.le_refl _)
      have hz351 := hE350.le
      have hs352 := hx342.size
      refine st_gq 10 57 rfl rfl (by decide) ?_
      refine st_q (v := .bool false) (x_notB (b := true) rfl) ?_
      refine st_q (v := .bool false) (x_pickF rfl rfl) ?_
      refine st_q (v := .bool false) (x_move rfl) ?_
      refine st_gq 16 63 rfl rfl (by decide) ?_
      refine st_q (v := .bool ok) (x_move rfl) ?_
      refine st_gq 16 63 rfl rfl (by decide) ?_
      refine st_q (v := .bool ok) (x_move rfl) ?_
      refine st_gq 16 63 rfl rfl (by decide) ?_
      refine st_q (v := .bool (decide (ok ≠ ok))) (x_neqBB Try.underlying4 rfl rfl) ?_
      refine st_q (v := .bool (decide (ok ≠ ok))) (x_pickF rfl rfl) ?_
      refine st_if (p := ok ≠ ok) (x_move rfl) (fun h353 => ?_) (fun h353 => ?_)
      ·
        exact absurd h353 (not_not_intro rfl)
      ·
        refine st_gq 21 68 rfl rfl (by decide) ?_
        refine st_q (v := .slice am xs.length cm) (x_move rfl) ?_
        refine st_gq 21 68 rfl rfl (by decide) ?_
        refine st_q (v := .slice a xs.length ca) (x_move rfl) ?_
        refine st_gq 21 68 rfl rfl (by decide) ?_
        refine st_q (v := .slice ax es.length cx) (x_move rfl) ?_
        refine st_gq 21 68 rfl rfl (by decide) ?_
        refine st_q (v := .slice b es.length cb) (x_move rfl) ?_
        refine st_gq 21 68 rfl rfl (by decide) ?_
        refine st_c (t_call [.slice am xs.length cm, .slice a xs.length ca, .slice ax es.length cx, .slice b es.length cb] T.cf14 rfl rfl) (left14 xs es _ _ _ _ _ _ _ hF344.src (ha.below hE350) hF345.src (hb.below hE350)) ?_
        rintro _ w354 ⟨rfl, hx355⟩
        refine ⟨_, rfl, ?_⟩
        have hF356 := hF344.ext hx355
        have hF357 := hF345.ext hx355
        have hF358 := hF346.ext hx355
        have hF359 := hF347.ext hx355
        have hF360 := hF348.ext hx355
        have hF361 := hF349.ext hx355
        have hE362 : Below w0.heap.size w0 w354 := hx355.e hE350 (Nat.le_refl _)
        have hz363 := hE362.le
        have hs364 := hx355.size
        refine st_gq 21 68 rfl rfl (by decide) ?_
        refine st_q (v := .bool false) (x_notB (b := true) rfl) ?_
        refine st_q (v := .bool false) (x_pickF rfl rfl) ?_
        refine st_nil ?_
        refine kn325 _ _ ?_
        refine cndF rfl ?_
        refine skip ?_
        refine kn321 _ _ ?_
        refine seqK fun Q365 kn366 kr367 ke368 => ?_
        refine region ?_
        refine st_q (v := .slice am xs.length cm) (x_move rfl) ?_
        refine st_q (v := .slice ax es.length cx) (x_move rfl) ?_
        refine st_c (t_call [.slice am xs.length cm, .slice ax es.length cx] T.cf16 rfl rfl) (levels16 xs es _ _ _ (Src.front enS_len hF356.src) (Src.front enE_len hF357.src) hfx hfe hn) ?_
        rintro _ w369 (⟨hn373, _⟩ | ⟨_, v371, lev3, rfl, hx370, hIs_g, hO372⟩)
        · exact absurd hn373 hn28
        refine ⟨_, rfl, ?_⟩
        have hF374 := hF356.ext hx370
        have hF375 := hF357.ext hx370
        have hF376 := hF358.ext hx370
        have hF377 := hF359.ext hx370
        have hF378 := hF360.ext hx370
        have hF379 := hF361.ext hx370
        have hE380 : Below w0.heap.size w0 w369 := hx370.e hE362 (Nat.le_refl _)
        have hz381 := hE380.le
        have hs382 := hx370.size
        have hO3722 := Own.len hO372 (ranksOf_len (nodesL xs es) lev3).symm
        obtain ⟨ad_g, ca_g, rfl, _, _⟩ := hO3722.src.form
        have hlo_g : ∀ b, (.slice ad_g (ranksOf (nodesL xs es) lev3).length ca_g : Value).ownBlock = some b → w354.heap.size ≤ b ∧ b < w369.heap.size := fun b hb => hO3722.lt hb
        have e_g : (ranksOf (nodesL xs es) lev) = (ranksOf (nodesL xs es) lev3) := hIs_a.uniq hIs_g
        refine st_q (v := .tuple #[.slice ad_g ((ranksOf (nodesL xs es) lev3).length) ca_g, .int .i64 ((0 : Nat) : Int)]) (x_move rfl) ?_
        refine st_q (v := .slice ad_g ((ranksOf (nodesL xs es) lev3).length) ca_g) (x_extract rfl rfl) ?_
        refine st_q (v := .int .i64 ((0 : Nat) : Int)) (x_extract rfl rfl) ?_
        refine st_q (v := .slice ad_g ((ranksOf (nodesL xs es) lev3).length) ca_g) (x_assign rfl) ?_
        refine st_q (v := .int .i64 ((0 : Nat) : Int)) (x_assign rfl) ?_
        refine st_nil ?_
        refine kn366 _ _ ?_
        refine seqK fun Q383 kn384 kr385 ke386 => ?_
        refine region ?_
        refine st_q (v := .slice ax es.length cx) (x_move rfl) ?_
        refine st_c (t_call [.slice ax es.length cx] T.cf18 rfl rfl) (cycle18 es _ _ (Src.front enE_len hF375.src) hfe (by omega)) ?_
        rintro _ w387 ⟨v389, row2, ok2, rfl, hx388, hC391, hO390⟩
        obtain ⟨er, eo⟩ := hC.uniq hC391
        subst er
        subst eo
        refine ⟨_, rfl, ?_⟩
        have hF392 := hF374.ext hx388
        have hF393 := hF375.ext hx388
        have hF394 := hF376.ext hx388
        have hF395 := hF377.ext hx388
        have hF396 := hF378.ext hx388
        have hF397 := hF379.ext hx388
        have hF398 := hO3722.ext hx388
        have hE399 : Below w0.heap.size w0 w387 := hx388.e hE380 (Nat.le_refl _)
        have hz400 := hE399.le
        have hs401 := hx388.size
        obtain ⟨ad_k, ca_k, rfl, _, _⟩ := hO390.src.form
        have hlo_k : ∀ b, (.slice ad_k row.length ca_k : Value).ownBlock = some b → w369.heap.size ≤ b ∧ b < w387.heap.size := fun b hb => hO390.lt hb
        refine st_q (v := .tuple #[.slice ad_k row.length ca_k, .bool ok]) (x_move rfl) ?_
        refine st_q (v := .slice ad_k row.length ca_k) (x_extract rfl rfl) ?_
        refine st_q (v := .bool ok) (x_extract rfl rfl) ?_
        refine st_q (v := .slice ad_k row.length ca_k) (x_assign rfl) ?_
        refine st_q (v := .bool ok) (x_assign rfl) ?_
        refine st_nil ?_
        refine kn384 _ _ ?_
        refine seqK fun Q402 kn403 kr404 ke405 => ?_
        refine seqK fun Q406 kn407 kr408 ke409 => ?_
        refine region ?_
        refine st_q (v := .int .i64 ((0 : Nat) : Int)) (x_assign rfl) ?_
        refine st_nil ?_
        refine kn407 _ _ ?_
        refine blockK fun Q410 kn411 kr412 kx413 kb414 => ?_
        refine loopK (α := Nat × (List Value)) (fun x => [(7, .slice ad_a ((ranksOf (nodesL xs es) lev).length) ca_a), (9, .slice ad_b ((ranksOf (nodesL xs es) lev2).length) ca_b), (11, .slice ad_c row.length ca_c), (13, .slice ad_d row.length ca_d), (15, .slice ad_g ((ranksOf (nodesL xs es) lev3).length) ca_g), (17, .slice ad_k row.length ca_k), (19, .int .i64 ((x.1 : Nat) : Int))]) (fun x w415 => Below w0.heap.size w0 w415 ∧ (x.1 ≤ (ranksOf (nodesL xs es) lev).length ∧ Own w415.heap w14.heap.size 45 2 (.slice ad_a (ranksOf (nodesL xs es) lev).length ca_a) (ranksOf (nodesL xs es) lev).length x.2) ∧ Own w415.heap w24.heap.size 45 2 (.slice ad_b (ranksOf (nodesL xs es) lev2).length ca_b) (ranksOf (nodesL xs es) lev2).length (flat enR (ranksOf (nodesL xs es) lev2)) ∧ Own w415.heap w276.heap.size 3 1 (.slice ad_c row.length ca_c) row.length (flat enN row) ∧ Own w415.heap w291.heap.size 3 1 (.slice ad_d row.length ca_d) row.length (flat enN row) ∧ Own w415.heap w354.heap.size 45 2 (.slice ad_g (ranksOf (nodesL xs es) lev3).length ca_g) (ranksOf (nodesL xs es) lev3).length (flat enR (ranksOf (nodesL xs es) lev3)) ∧ Own w415.heap w369.heap.size 3 1 (.slice ad_k row.length ca_k) row.length (flat enN row)) (fun x => (ranksOf (nodesL xs es) lev).length - x.1) (0, (flat enR (ranksOf (nodesL xs es) lev))) ⟨rfl, rfl, rfl, rfl, rfl, rfl, rfl, trivial⟩ ?_ ?_
        ·
          refine ⟨hE399, ?_⟩
          try dsimp only
          refine ⟨?_, hF395, hF396, hF397, hF398, hO390⟩
          exact ⟨Nat.zero_le _, hF394⟩
        ·
          rintro τ416 ⟨ia, qa⟩ w417 ⟨hx423, ⟨⟨hia, hqa⟩, hC418, hC419, hC420, hC421, hC422⟩⟩
          try dsimp only at hia hqa hC418 hC419 hC420 hC421 hC422
          have hz424 := hx423.le
          intro Q425 kn426 kr427 ke428
          refine seqK fun Q429 kn430 kr431 ke432 => ?_
          refine seqK fun Q433 kn434 kr435 ke436 => ?_
          refine region ?_
          refine st_q (v := .int .i64 ((ia : Nat) : Int)) (x_move rfl) ?_
          refine st_q (v := .slice ad_a ((ranksOf (nodesL xs es) lev).length) ca_a) (x_move rfl) ?_
          refine st_q (v := .int .i64 (((ranksOf (nodesL xs es) lev).length : Nat) : Int)) (x_lenSl rfl Try.underlying32 rfl) ?_
          refine st_q (v := .bool (decide (ia < ((ranksOf (nodesL xs es) lev).length)))) (x_lssN rfl rfl) ?_
          refine st_nil ?_
          refine kn434 _ _ ?_
          refine cnd (p := ia < ((ranksOf (nodesL xs es) lev).length)) rfl (fun h437 => ?_) (fun h437 => ?_)
          ·
            refine skip ?_
            refine kn430 _ _ ?_
            refine seqK fun Q438 kn439 kr440 ke441 => ?_
            refine blockK fun Q442 kn443 kr444 kx445 kb446 => ?_
            refine region ?_
            refine st_q (v := .slice ad_a ((ranksOf (nodesL xs es) lev).length) ca_a) (x_move rfl) ?_
            refine st_q (v := .int .i64 ((ia : Nat) : Int)) (x_move rfl) ?_
            obtain ⟨b447, o448, ha449, hc450⟩ := hqa.src.at (by omega)
            refine st_q (v := .pointer (some ⟨b447, o448 + ia * 2, none⟩)) (x_index' T.sl32 rfl ha449 rfl (by omega)) ?_
            refine st_q (v := .pointer (some ⟨b447, o448 + ia * 2 + 1, none⟩)) (x_field (o := o448 + ia * 2) T.fa45_1 rfl) ?_
            have hbk455 := own_addr (m := (ranksOf (nodesL xs es) lev).length) (c := ca_a) ha449
            refine st_s (e_stC (v := .int .i64 (-5)) (j := ia * 2 + 1) T.sz3 rfl rfl rfl rfl hqa ha449 (by omega) (by omega) ?_)
            intro w451 hG452 hs453 hO454
            have hE456 : Below w0.heap.size w0 w451 := grown_below hG452 hx423 (Nat.le_refl _) (fun z e => by have e := Option.some.inj e; subst e; have := hlo_a _ hbk455; omega)
            have hz457 := hE456.le
            have hF458 := hC418.grown hG452 (fun z h1 h2 => by have h2 := Option.some.inj h2; subst h2; have g1 := hlo_b _ h1; have g2 := hlo_a _ hbk455; omega)
            have hF459 := hC419.gk hG452 (RowK.of hqa.rowk hbk455) (by decide)
            have hF460 := hC420.gk hG452 (RowK.of hqa.rowk hbk455) (by decide)
            have hF461 := hC421.grown hG452 (fun z h1 h2 => by have h2 := Option.some.inj h2; subst h2; have g1 := hlo_g _ h1; have g2 := hlo_a _ hbk455; omega)
            have hF462 := hC422.gk hG452 (RowK.of hqa.rowk hbk455) (by decide)
            refine st_nil ?_
            refine kn443 _ _ ?_
            refine kn439 _ _ ?_
            refine region ?_
            refine st_q (v := .int .i64 ((ia : Nat) : Int)) (x_move rfl) ?_
            refine st_q (v := .int .i64 (((ia + 1) : Nat) : Int)) (x_addN rfl rfl (by omega)) ?_
            refine st_q (v := .int .i64 (((ia + 1) : Nat) : Int)) (x_assign rfl) ?_
            refine st_nil ?_
            refine kn426 _ ((ia + 1), (qa.set (ia * 2 + 1) (.int .i64 (-5)))) _ ⟨rfl, rfl, rfl, rfl, rfl, rfl, rfl, trivial⟩ ⟨hE456, ?_⟩ ?_
            ·
              try dsimp only
              refine ⟨?_, hF458, hF459, hF460, hF461, hF462⟩
              exact ⟨by omega, hO454⟩
            ·
              (try dsimp only); omega
          ·
            refine exit ?_
            refine ke432 _ _ _ ?_
            refine ke428 _ _ _ ?_
            refine kb414 _ _ ?_
            refine kn403 _ _ ?_
            refine seqK fun Q463 kn464 kr465 ke466 => ?_
            refine seqK fun Q467 kn468 kr469 ke470 => ?_
            refine region ?_
            refine st_q (v := .int .i64 ((0 : Nat) : Int)) (x_assign rfl) ?_
            refine st_nil ?_
            refine kn468 _ _ ?_
            refine blockK fun Q471 kn472 kr473 kx474 kb475 => ?_
            refine loopK (α := Nat × (List Value)) (fun x => [(9, .slice ad_b ((ranksOf (nodesL xs es) lev2).length) ca_b), (11, .slice ad_c row.length ca_c), (13, .slice ad_d row.length ca_d), (15, .slice ad_g ((ranksOf (nodesL xs es) lev3).length) ca_g), (17, .slice ad_k row.length ca_k), (20, .int .i64 ((x.1 : Nat) : Int))]) (fun x w476 => Below w0.heap.size w0 w476 ∧ (x.1 ≤ row.length ∧ Own w476.heap w276.heap.size 3 1 (.slice ad_c row.length ca_c) row.length x.2) ∧ Own w476.heap w24.heap.size 45 2 (.slice ad_b (ranksOf (nodesL xs es) lev2).length ca_b) (ranksOf (nodesL xs es) lev2).length (flat enR (ranksOf (nodesL xs es) lev2)) ∧ Own w476.heap w291.heap.size 3 1 (.slice ad_d row.length ca_d) row.length (flat enN row) ∧ Own w476.heap w354.heap.size 45 2 (.slice ad_g (ranksOf (nodesL xs es) lev3).length ca_g) (ranksOf (nodesL xs es) lev3).length (flat enR (ranksOf (nodesL xs es) lev3)) ∧ Own w476.heap w369.heap.size 3 1 (.slice ad_k row.length ca_k) row.length (flat enN row) ∧ Own w476.heap w14.heap.size 45 2 (.slice ad_a (ranksOf (nodesL xs es) lev).length ca_a) (ranksOf (nodesL xs es) lev).length qa) (fun x => row.length - x.1) (0, (flat enN row)) ⟨rfl, rfl, rfl, rfl, rfl, rfl, trivial⟩ ?_ ?_
            ·
              refine ⟨hx423, ?_⟩
              try dsimp only
              refine ⟨?_, hC418, hC420, hC421, hC422, hqa⟩
              exact ⟨Nat.zero_le _, hC419⟩
            ·
              rintro τ477 ⟨ic, qc⟩ w478 ⟨hx484, ⟨⟨hic, hqc⟩, hC479, hC480, hC481, hC482, hC483⟩⟩
              try dsimp only at hic hqc hC479 hC480 hC481 hC482 hC483
              have hz485 := hx484.le
              intro Q486 kn487 kr488 ke489
              refine seqK fun Q490 kn491 kr492 ke493 => ?_
              refine seqK fun Q494 kn495 kr496 ke497 => ?_
              refine region ?_
              refine st_q (v := .int .i64 ((ic : Nat) : Int)) (x_move rfl) ?_
              refine st_q (v := .slice ad_c row.length ca_c) (x_move rfl) ?_
              refine st_q (v := .int .i64 ((row.length : Nat) : Int)) (x_lenSl rfl Try.underlying38 rfl) ?_
              refine st_q (v := .bool (decide (ic < row.length))) (x_lssN rfl rfl) ?_
              refine st_nil ?_
              refine kn495 _ _ ?_
              refine cnd (p := ic < row.length) rfl (fun h498 => ?_) (fun h498 => ?_)
              ·
                refine skip ?_
                refine kn491 _ _ ?_
                refine seqK fun Q499 kn500 kr501 ke502 => ?_
                refine blockK fun Q503 kn504 kr505 kx506 kb507 => ?_
                refine region ?_
                refine st_q (v := .slice ad_c row.length ca_c) (x_move rfl) ?_
                refine st_q (v := .int .i64 ((ic : Nat) : Int)) (x_move rfl) ?_
                obtain ⟨b508, o509, ha510, hc511⟩ := hqc.src.at (by omega)
                refine st_q (v := .pointer (some ⟨b508, o509 + ic * 1, none⟩)) (x_index' T.sl38 rfl ha510 rfl (by omega)) ?_
                have hbk516 := own_addr (m := row.length) (c := ca_c) ha510
                refine st_s (e_stC (v := .int .i64 (-5)) (j := ic * 1) T.sz3 rfl rfl rfl rfl hqc ha510 (by omega) (by omega) ?_)
                intro w512 hG513 hs514 hO515
                have hE517 : Below w0.heap.size w0 w512 := grown_below hG513 hx484 (Nat.le_refl _) (fun z e => by have e := Option.some.inj e; subst e; have := hlo_c _ hbk516; omega)
                have hz518 := hE517.le
                have hF519 := hC479.gk hG513 (RowK.of hqc.rowk hbk516) (by decide)
                have hF520 := hC480.grown hG513 (fun z h1 h2 => by have h2 := Option.some.inj h2; subst h2; have g1 := hlo_d _ h1; have g2 := hlo_c _ hbk516; omega)
                have hF521 := hC481.gk hG513 (RowK.of hqc.rowk hbk516) (by decide)
                have hF522 := hC482.grown hG513 (fun z h1 h2 => by have h2 := Option.some.inj h2; subst h2; have g1 := hlo_k _ h1; have g2 := hlo_c _ hbk516; omega)
                have hF523 := hC483.gk hG513 (RowK.of hqc.rowk hbk516) (by decide)
                refine st_nil ?_
                refine kn504 _ _ ?_
                refine kn500 _ _ ?_
                refine region ?_
                refine st_q (v := .int .i64 ((ic : Nat) : Int)) (x_move rfl) ?_
                refine st_q (v := .int .i64 (((ic + 1) : Nat) : Int)) (x_addN rfl rfl (by omega)) ?_
                refine st_q (v := .int .i64 (((ic + 1) : Nat) : Int)) (x_assign rfl) ?_
                refine st_nil ?_
                refine kn487 _ ((ic + 1), (qc.set (ic * 1) (.int .i64 (-5)))) _ ⟨rfl, rfl, rfl, rfl, rfl, rfl, trivial⟩ ⟨hE517, ?_⟩ ?_
                ·
                  try dsimp only
                  refine ⟨?_, hF519, hF520, hF521, hF522, hF523⟩
                  exact ⟨by omega, hO515⟩
                ·
                  (try dsimp only); omega
              ·
                refine exit ?_
                refine ke493 _ _ _ ?_
                refine ke489 _ _ _ ?_
                refine kb475 _ _ ?_
                refine kn464 _ _ ?_
                refine seqK fun Q524 kn525 kr526 ke527 => ?_
                refine region ?_
                refine st_q (v := .slice ad_g ((ranksOf (nodesL xs es) lev3).length) ca_g) (x_move rfl) ?_
                refine st_q (v := .slice ad_b ((ranksOf (nodesL xs es) lev2).length) ca_b) (x_move rfl) ?_
                refine st_c (t_call [.slice ad_g ((ranksOf (nodesL xs es) lev3).length) ca_g, .slice ad_b ((ranksOf (nodesL xs es) lev2).length) ca_b] T.cf20 rfl rfl) (sameRanks20 (ranksOf (nodesL xs es) lev3) (ranksOf (nodesL xs es) lev2) _ _ _ hC481.src hC479.src) ?_
                rintro _ w528 ⟨e530, hx529⟩
                rw [decide_eq_true (e_g.symm.trans e_b)] at e530
                subst e530
                refine ⟨_, rfl, ?_⟩
                have hF531 := hC479.ext hx529
                have hF532 := hC480.ext hx529
                have hF533 := hC481.ext hx529
                have hF534 := hC482.ext hx529
                have hF535 := hC483.ext hx529
                have hF536 := hqc.ext hx529
                have hE537 : Below w0.heap.size w0 w528 := hx529.e hx484 (Nat.le_refl _)
                have hz538 := hE537.le
                have hs539 := hx529.size
                refine st_q (v := .bool true) (x_move rfl) ?_
                refine st_gq 3 109 rfl rfl (by decide) ?_
                refine st_q (v := .slice ad_k row.length ca_k) (x_move rfl) ?_
                refine st_gq 3 109 rfl rfl (by decide) ?_
                refine st_q (v := .slice ad_d row.length ca_d) (x_move rfl) ?_
                refine st_gq 3 109 rfl rfl (by decide) ?_
                refine st_c (t_call [.slice ad_k row.length ca_k, .slice ad_d row.length ca_d] T.cf22 rfl rfl) (sameInts22 row row _ _ _ hF534.src hF532.src) ?_
                rintro _ w540 ⟨e542, hx541⟩
                rw [decide_eq_true rfl] at e542
                subst e542
                refine ⟨_, rfl, ?_⟩
                have hF543 := hF531.ext hx541
                have hF544 := hF532.ext hx541
                have hF545 := hF533.ext hx541
                have hF546 := hF534.ext hx541
                have hF547 := hF535.ext hx541
                have hF548 := hF536.ext hx541
                have hE549 : Below w0.heap.size w0 w540 := hx541.e hE537 (Nat.le_refl _)
                have hz550 := hE549.le
                have hs551 := hx541.size
                refine st_q (v := .bool true) (x_pickT rfl rfl) ?_
                refine st_q (v := .bool true) (x_move rfl) ?_
                refine st_gq 8 114 rfl rfl (by decide) ?_
                refine st_c (t_call [] T.cf15 rfl rfl) (known15 _) ?_
                rintro _ w552 ⟨rfl, hx553⟩
                refine ⟨_, rfl, ?_⟩
                have hF554 := hF543.ext hx553
                have hF555 := hF544.ext hx553
                have hF556 := hF545.ext hx553
                have hF557 := hF546.ext hx553
                have hF558 := hF547.ext hx553
                have hF559 := hF548.ext hx553
                have hE560 : Below w0.heap.size w0 w552 := hx553.e hE549 (Nat.le_refl _)
                have hz561 := hE560.le
                have hs562 := hx553.size
                refine st_q (v := .bool true) (x_pickT rfl rfl) ?_
                refine st_q (v := .bool true) (x_assign rfl) ?_
                refine st_nil ?_
                refine kn525 _ _ ?_
                refine ret ?_
                refine leave1 (P := Try.prog) (fn := Try.f4) (t := 4) (v := .bool true) rfl rfl ?_
                exact ⟨rfl, hE560⟩

end Go.Proofs.Ytknfjgbipfpnjaa
