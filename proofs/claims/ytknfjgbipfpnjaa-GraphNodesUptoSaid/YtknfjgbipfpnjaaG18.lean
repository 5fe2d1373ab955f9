import Derived.Test.YtknfjgbipfpnjaaG17
namespace Go.Proofs.Ytknfjgbipfpnjaa
open Go.RowKit Go.Eng Go.OrdPure
open Go.Knot Go.HeapPure
theorem T.cf9 : CF Try.prog 9 := fun _ _ => by kernel_rfl
theorem T.cf10 : CF Try.prog 10 := fun _ _ => by kernel_rfl
theorem T.cf30 : CF Try.prog 30 := fun _ _ => by kernel_rfl
theorem T.cf28 : CF Try.prog 28 := fun _ _ => by kernel_rfl
theorem T.cf31 : CF Try.prog 31 := fun _ _ => by kernel_rfl
theorem T.cf32 : CF Try.prog 32 := fun _ _ => by kernel_rfl
theorem T.cf33 : CF Try.prog 33 := fun _ _ => by kernel_rfl
theorem T.cf14 : CF Try.prog 14 := fun _ _ => by kernel_rfl
theorem T.cf15 : CF Try.prog 15 := fun _ _ => by kernel_rfl

theorem e_stS {P : Program} {n : Nat} {σ : Nat → Value} {w : World} {ty t : TypeId} {K : Value → World → Prop} {x y : Operand} {α : Type} {enc : α → List Value} {k : Nat} (hk : ∀ x, (enc x).length = k) {lo m c i b o : Nat} {a : Option Addr} {v : Value} {u : α} {xs : List α} {T : TypeId} (hs : SZ P t k) (hx : ev n σ x = .pointer (some ⟨b, o + i * k, none⟩)) (hy : ev n σ y = v) (hv : v.cells.toList = enc u)
    (ho : Own w.heap lo T k (.slice a m c) m (flat enc xs)) (ha : a = some ⟨b, o, none⟩) (hi : i < xs.length) (h1 : (enc u).all (·.oneCell') = true)
    (kk : ∀ w', w.grownBy w' (some b) → w'.heap.size = w.heap.size → Own w'.heap lo T k (.slice a m c) m (flat enc (xs.set i u)) → K undef w') : Eff P (ev n σ) w (.store t x y) ty K := by
  have ho2 := ho
  obtain ⟨b', c', e, hm, hO⟩ := ho.ob (fun e => by rw [ha] at e; cases e)
  rw [ha] at e
  injection e with e1 _ e3
  injection e1 with e1
  injection e1 with e4 e5
  subst e4; subst e5; subst e3
  refine e_stO hk hs hx hy hv hO hi h1 fun w' ob hp hO' => kk w' hp.grownBy hp.size ?_
  rw [ha]
  exact hO'.own hm (by have := ho2.1; rw [flat_length hk] at this ⊢; rw [List.length_set]; exact this)
theorem own_addr {b o m c : Nat} {a : Option Addr} (ha : a = some ⟨b, o, none⟩) : (Value.slice a m c).ownBlock = some b := by rw [ha]; rfl
theorem Own.lenX {α : Type} {enc : α → List Value} {k : Nat} (hk : ∀ x, (enc x).length = k + 1) {h : Array Obj} {lo : Nat} {T : TypeId} {v : Value} {m : Nat} {xs : List α} (ho : Own h lo T (k + 1) v m (flat enc xs)) : xs.length = m := by
  have := ho.1
  rw [flat_length hk] at this
  exact Nat.eq_of_mul_eq_mul_right (Nat.succ_pos k) this
theorem RowK.of {h : Array Obj} {v : Value} {K b : Nat} (hr : RowK h v.ownBlock K) (hb : v.ownBlock = some b) : RowK h (some b) K := hb ▸ hr
theorem Where.wh {w1 w w' : World} {sv v' : Value} {S : Nat → Prop} (hW : Where w w' sv v') (h : ∀ b, sv.ownBlock = some b → S b ∨ w1.heap.size ≤ b) (hl : w1.heap.size ≤ w.heap.size) : ∀ b, v'.ownBlock = some b → S b ∨ w1.heap.size ≤ b := fun b hb => by
  rcases hW with e | ⟨_, e⟩
  · exact h b (e ▸ hb)
  · exact .inr (by have := e b hb; omega)
set_option maxHeartbeats 4000000 in
theorem nodes8 (xs : List ByteArray) (es : List Edge) (va vb : Value) (w0 : World) (ha : Src w0.heap va xs.length 1 (flat enS xs)) (hb : Src w0.heap vb es.length 3 (flat enE es)) (hfx : FitS xs) (hfe : FitE es) (hn1 : xs.length + es.length ≤ 1048576) : Calls Try.prog 8 #[va, vb] w0 fun e w' => e = .returned (.bool true) ∧ Below w0.heap.size w0 w' := by
  have hE0 : Below w0.heap.size w0 w0 := Below.refl _ _
  have hz0 := hE0.le
  obtain ⟨a, ca, rfl, hca, hca1⟩ := ha.form
  obtain ⟨b, cb, rfl, hcb, hcb1⟩ := hb.form
  have hn : xs.length + 2 * es.length ≤ 2097152 := by omega
  refine enter Try.func8 rfl 139 Try.ntmps8 rfl ?_
  refine seqK fun Q1 kn2 kr3 ke4 => ?_
  refine region ?_
  refine st_q (v := .bool false) (x_assign rfl) ?_
  refine st_nil ?_
  refine kn2 _ _ ?_
  refine seqK fun Q5 kn6 kr7 ke8 => ?_
  refine region ?_
  refine st_q (v := .slice a xs.length ca) (x_move rfl) ?_
  refine st_c (t_call [.slice a xs.length ca] T.cf9 rfl rfl) (lentNames9 xs _ _ (ha.below hE0) (by omega)) ?_
  rintro _ w9 ⟨am, cm, rfl, hx10, hmc, hO_m, hmc2⟩
  refine ⟨_, rfl, ?_⟩
  have hE11 : Below w0.heap.size w0 w9 := hx10.e hE0 (Nat.le_refl _)
  have hz12 := hE11.le
  have hs13 := hx10.size
  have hlo_m : ∀ b, (.slice am (xs.length + 1) cm : Value).ownBlock = some b → w0.heap.size ≤ b ∧ b < w9.heap.size := fun b hb => hO_m.lt hb
  refine st_q (v := .slice b es.length cb) (x_move rfl) ?_
  refine st_c (t_call [.slice b es.length cb] T.cf10 rfl rfl) (lentEdges10 es _ _ (hb.below hE11) (by omega)) ?_
  rintro _ w14 ⟨ax, cx, rfl, hx15, hxc, hO_x, hxc2⟩
  refine ⟨_, rfl, ?_⟩
  have hF16 := hO_m.ext hx15
  have hE17 : Below w0.heap.size w0 w14 := hx15.e hE11 (Nat.le_refl _)
  have hz18 := hE17.le
  have hs19 := hx15.size
  have hlo_x : ∀ b, (.slice ax (es.length + 1) cx : Value).ownBlock = some b → w9.heap.size ≤ b ∧ b < w14.heap.size := fun b hb => hO_x.lt hb
  refine st_q (v := .slice am xs.length cm) (x_assign rfl) ?_
  refine st_q (v := .slice ax es.length cx) (x_assign rfl) ?_
  refine st_nil ?_
  refine kn6 _ _ ?_
  refine seqK fun Q20 kn21 kr22 ke23 => ?_
  refine region ?_
  refine st_q (v := .slice am xs.length cm) (x_move rfl) ?_
  refine st_q (v := .slice ax es.length cx) (x_move rfl) ?_
  refine st_c (t_call [.slice am xs.length cm, .slice ax es.length cx] T.cf30 rfl rfl) (nodes30 xs es _ _ _ (Src.front enS_len hF16.src) (Src.front enE_len hO_x.src) hfx hfe hn) ?_
  rintro _ w24 ⟨v_a, rfl, hx25, hO_a⟩
  refine ⟨_, rfl, ?_⟩
  have hF26 := hF16.ext hx25
  have hF27 := hO_x.ext hx25
  have hE28 : Below w0.heap.size w0 w24 := hx25.e hE17 (Nat.le_refl _)
  have hz29 := hE28.le
  have hs30 := hx25.size
  obtain ⟨aa, caa, rfl, _, _⟩ := hO_a.src.form
  have hlo_a : ∀ b, (.slice aa (nodesL xs es).length caa : Value).ownBlock = some b → w14.heap.size ≤ b ∧ b < w24.heap.size := fun b hb => hO_a.lt hb
  refine st_q (v := .slice am xs.length cm) (x_move rfl) ?_
  refine st_q (v := .slice ax es.length cx) (x_move rfl) ?_
  refine st_c (t_call [.slice am xs.length cm, .slice ax es.length cx] T.cf30 rfl rfl) (nodes30 xs es _ _ _ (Src.front enS_len hF26.src) (Src.front enE_len hF27.src) hfx hfe hn) ?_
  rintro _ w31 ⟨v_b, rfl, hx32, hO_b⟩
  refine ⟨_, rfl, ?_⟩
  have hF33 := hF26.ext hx32
  have hF34 := hF27.ext hx32
  have hF35 := hO_a.ext hx32
  have hE36 : Below w0.heap.size w0 w31 := hx32.e hE28 (Nat.le_refl _)
  have hz37 := hE36.le
  have hs38 := hx32.size
  have hlo_b : ∀ b, (v_b : Value).ownBlock = some b → w24.heap.size ≤ b ∧ b < w31.heap.size := fun b hb => hO_b.lt hb
  refine st_q (v := .slice aa ((nodesL xs es).length) caa) (x_assign rfl) ?_
  refine st_q (v := v_b) (x_assign rfl) ?_
  refine st_nil ?_
  refine kn21 _ _ ?_
  refine seqK fun Q39 kn40 kr41 ke42 => ?_
  refine region ?_
  refine st_q (v := .slice ax es.length cx) (x_move rfl) ?_
  refine st_q (v := .slice am xs.length cm) (x_move rfl) ?_
  refine st_c (t_call [.slice ax es.length cx, .slice am xs.length cm] T.cf26 rfl rfl) (reach26 es xs _ _ _ (Src.front enE_len hF34.src) (Src.front enS_len hF33.src) hfx hfe hn) ?_
  rintro _ w43 ⟨v_c, R, rfl, hx44, hR, hO_c⟩
  refine ⟨_, rfl, ?_⟩
  have hF45 := hF33.ext hx44
  have hF46 := hF34.ext hx44
  have hF47 := hF35.ext hx44
  have hF48 := hO_b.ext hx44
  have hE49 : Below w0.heap.size w0 w43 := hx44.e hE36 (Nat.le_refl _)
  have hz50 := hE49.le
  have hs51 := hx44.size
  obtain ⟨ac, cac, rfl, _, _⟩ := hO_c.src.form
  have hlo_c : ∀ b, (.slice ac R.length cac : Value).ownBlock = some b → w31.heap.size ≤ b ∧ b < w43.heap.size := fun b hb => hO_c.lt hb
  refine st_q (v := .slice ax es.length cx) (x_move rfl) ?_
  refine st_q (v := .slice am xs.length cm) (x_move rfl) ?_
  refine st_c (t_call [.slice ax es.length cx, .slice am xs.length cm] T.cf26 rfl rfl) (reach26 es xs _ _ _ (Src.front enE_len hF46.src) (Src.front enS_len hF45.src) hfx hfe hn) ?_
  rintro _ w52 ⟨v_d, R2, rfl, hx53, hR2, hO_d⟩
  refine ⟨_, rfl, ?_⟩
  have hF54 := hF45.ext hx53
  have hF55 := hF46.ext hx53
  have hF56 := hF47.ext hx53
  have hF57 := hF48.ext hx53
  have hF58 := hO_c.ext hx53
  have hE59 : Below w0.heap.size w0 w52 := hx53.e hE49 (Nat.le_refl _)
  have hz60 := hE59.le
  have hs61 := hx53.size
  have hlo_d : ∀ b, (v_d : Value).ownBlock = some b → w43.heap.size ≤ b ∧ b < w52.heap.size := fun b hb => hO_d.lt hb
  refine st_q (v := .slice ac R.length cac) (x_assign rfl) ?_
  refine st_q (v := v_d) (x_assign rfl) ?_
  refine st_nil ?_
  refine kn40 _ _ ?_
  refine seqK fun Q62 kn63 kr64 ke65 => ?_
  refine region ?_
  refine st_q (v := .slice ax es.length cx) (x_move rfl) ?_
  refine st_c (t_call [.slice ax es.length cx] T.cf28 rfl rfl) (turned28 es _ _ (Src.front enE_len hF55.src) (by omega)) ?_
  rintro _ w66 ⟨v_e, rfl, hx67, hO_e⟩
  refine ⟨_, rfl, ?_⟩
  have hF68 := hF54.ext hx67
  have hF69 := hF55.ext hx67
  have hF70 := hF56.ext hx67
  have hF71 := hF57.ext hx67
  have hF72 := hF58.ext hx67
  have hF73 := hO_d.ext hx67
  have hE74 : Below w0.heap.size w0 w66 := hx67.e hE59 (Nat.le_refl _)
  have hz75 := hE74.le
  have hs76 := hx67.size
  obtain ⟨ae, cae, rfl, _, _⟩ := hO_e.src.form
  have hlo_e : ∀ b, (.slice ae es.length cae : Value).ownBlock = some b → w52.heap.size ≤ b ∧ b < w66.heap.size := fun b hb => hO_e.lt hb
  refine st_q (v := .slice ax es.length cx) (x_move rfl) ?_
  refine st_c (t_call [.slice ax es.length cx] T.cf28 rfl rfl) (turned28 es _ _ (Src.front enE_len hF69.src) (by omega)) ?_
  rintro _ w77 ⟨v_f, rfl, hx78, hO_f⟩
  refine ⟨_, rfl, ?_⟩
  have hF79 := hF68.ext hx78
  have hF80 := hF69.ext hx78
  have hF81 := hF70.ext hx78
  have hF82 := hF71.ext hx78
  have hF83 := hF72.ext hx78
  have hF84 := hF73.ext hx78
  have hF85 := hO_e.ext hx78
  have hE86 : Below w0.heap.size w0 w77 := hx78.e hE74 (Nat.le_refl _)
  have hz87 := hE86.le
  have hs88 := hx78.size
  have hlo_f : ∀ b, (v_f : Value).ownBlock = some b → w66.heap.size ≤ b ∧ b < w77.heap.size := fun b hb => hO_f.lt hb
  refine st_q (v := .slice ae es.length cae) (x_assign rfl) ?_
  refine st_q (v := v_f) (x_assign rfl) ?_
  refine st_nil ?_
  refine kn63 _ _ ?_
  refine seqK fun Q89 kn90 kr91 ke92 => ?_
  refine region ?_
  refine st_q (v := .slice a xs.length ca) (x_move rfl) ?_
  refine st_q (v := .slice b es.length cb) (x_move rfl) ?_
  refine st_c (t_call [.slice a xs.length ca, .slice b es.length cb] T.cf31 rfl rfl) (refnodes31 xs es _ _ _ (ha.below hE86) (hb.below hE86) (by omega)) ?_
  rintro _ w93 ⟨v_rn, rfl, hx94, hO_rn⟩
  refine ⟨_, rfl, ?_⟩
  have hF95 := hF79.ext hx94
  have hF96 := hF80.ext hx94
  have hF97 := hF81.ext hx94
  have hF98 := hF82.ext hx94
  have hF99 := hF83.ext hx94
  have hF100 := hF84.ext hx94
  have hF101 := hF85.ext hx94
  have hF102 := hO_f.ext hx94
  have hE103 : Below w0.heap.size w0 w93 := hx94.e hE86 (Nat.le_refl _)
  have hz104 := hE103.le
  have hs105 := hx94.size
  have hlo_rn : ∀ b, (v_rn : Value).ownBlock = some b → w77.heap.size ≤ b ∧ b < w93.heap.size := fun b hb => hO_rn.lt hb
  refine st_q (v := .slice b es.length cb) (x_move rfl) ?_
  refine st_q (v := .slice a xs.length ca) (x_move rfl) ?_
  refine st_c (t_call [.slice b es.length cb, .slice a xs.length ca] T.cf32 rfl rfl) (refreach32 es xs _ _ _ (hb.below hE103) (ha.below hE103) (by omega)) ?_
  rintro _ w106 ⟨v_rr, R3, rfl, hx107, hR3, hO_rr⟩
  refine ⟨_, rfl, ?_⟩
  have hF108 := hF95.ext hx107
  have hF109 := hF96.ext hx107
  have hF110 := hF97.ext hx107
  have hF111 := hF98.ext hx107
  have hF112 := hF99.ext hx107
  have hF113 := hF100.ext hx107
  have hF114 := hF101.ext hx107
  have hF115 := hF102.ext hx107
  have hF116 := hO_rn.ext hx107
  have hE117 : Below w0.heap.size w0 w106 := hx107.e hE103 (Nat.le_refl _)
  have hz118 := hE117.le
  have hs119 := hx107.size
  have hlo_rr : ∀ b, (v_rr : Value).ownBlock = some b → w93.heap.size ≤ b ∧ b < w106.heap.size := fun b hb => hO_rr.lt hb
  refine st_q (v := .slice b es.length cb) (x_move rfl) ?_
  refine st_c (t_call [.slice b es.length cb] T.cf33 rfl rfl) (refturned33 es _ _ (hb.below hE117) (by omega)) ?_
  rintro _ w120 ⟨v_rt, rfl, hx121, hO_rt⟩
  refine ⟨_, rfl, ?_⟩
  have hF122 := hF108.ext hx121
  have hF123 := hF109.ext hx121
  have hF124 := hF110.ext hx121
  have hF125 := hF111.ext hx121
  have hF126 := hF112.ext hx121
  have hF127 := hF113.ext hx121
  have hF128 := hF114.ext hx121
  have hF129 := hF115.ext hx121
  have hF130 := hF116.ext hx121
  have hF131 := hO_rr.ext hx121
  have hE132 : Below w0.heap.size w0 w120 := hx121.e hE117 (Nat.le_refl _)
  have hz133 := hE132.le
  have hs134 := hx121.size
  have hlo_rt : ∀ b, (v_rt : Value).ownBlock = some b → w106.heap.size ≤ b ∧ b < w120.heap.size := fun b hb => hO_rt.lt hb
  refine st_q (v := v_rn) (x_assign rfl) ?_
  refine st_q (v := v_rr) (x_assign rfl) ?_
  refine st_q (v := v_rt) (x_assign rfl) ?_
  refine st_nil ?_
  refine kn90 _ _ ?_
  refine seqK fun Q135 kn136 kr137 ke138 => ?_
  refine seqK fun Q139 kn140 kr141 ke142 => ?_
  refine region ?_
  have eR2 := hR.uniq hR2
  subst eR2
  have eR3 := hR.uniq hR3
  subst eR3
  refine st_q (v := .slice aa ((nodesL xs es).length) caa) (x_move rfl) ?_
  refine st_q (v := v_rn) (x_move rfl) ?_
  refine st_c (t_call [.slice aa ((nodesL xs es).length) caa, v_rn] T.cf29 rfl rfl) (same29 (nodesL xs es) (nodesL xs es) _ _ _ hF124.src hF130.src) ?_
  rintro _ w143 ⟨e, hx144⟩
  rw [decide_eq_true rfl] at e
  subst e
  refine ⟨_, rfl, ?_⟩
  have hF145 := hF122.ext hx144
  have hF146 := hF123.ext hx144
  have hF147 := hF124.ext hx144
  have hF148 := hF125.ext hx144
  have hF149 := hF126.ext hx144
  have hF150 := hF127.ext hx144
  have hF151 := hF128.ext hx144
  have hF152 := hF129.ext hx144
  have hF153 := hF130.ext hx144
  have hF154 := hF131.ext hx144
  have hF155 := hO_rt.ext hx144
  have hE156 : Below w0.heap.size w0 w143 := hx144.e hE132 (Nat.le_refl _)
  have hz157 := hE156.le
  have hs158 := hx144.size
  refine st_q (v := .bool false) (x_notB (b := true) rfl) ?_
  refine st_q (v := .bool false) (x_move rfl) ?_
  refine st_gq 4 52 rfl rfl (by decide) ?_
  refine st_q (v := .slice ac R.length cac) (x_move rfl) ?_
  refine st_gq 4 52 rfl rfl (by decide) ?_
  refine st_q (v := v_rr) (x_move rfl) ?_
  refine st_gq 4 52 rfl rfl (by decide) ?_
  refine st_c (t_call [.slice ac R.length cac, v_rr] T.cf29 rfl rfl) (same29 R R _ _ _ hF149.src hF154.src) ?_
  rintro _ w159 ⟨e, hx160⟩
  rw [decide_eq_true rfl] at e
  subst e
  refine ⟨_, rfl, ?_⟩
  have hF161 := hF145.ext hx160
  have hF162 := hF146.ext hx160
  have hF163 := hF147.ext hx160
  have hF164 := hF148.ext hx160
  have hF165 := hF149.ext hx160
  have hF166 := hF150.ext hx160
  have hF167 := hF151.ext hx160
  have hF168 := hF152.ext hx160
  have hF169 := hF153.ext hx160
  have hF170 := hF154.ext hx160
  have hF171 := hF155.ext hx160
  have hE172 : Below w0.heap.size w0 w159 := hx160.e hE156 (Nat.le_refl _)
  have hz173 := hE172.le
  have hs174 := hx160.size
  refine st_gq 4 52 rfl rfl (by decide) ?_
  refine st_q (v := .bool false) (x_notB (b := true) rfl) ?_
  refine st_q (v := .bool false) (x_pickF rfl rfl) ?_
  refine st_q (v := .bool false) (x_move rfl) ?_
  refine st_gq 10 58 rfl rfl (by decide) ?_
  refine st_q (v := .slice ae es.length cae) (x_move rfl) ?_
  refine st_gq 10 58 rfl rfl (by decide) ?_
  refine st_q (v := v_rt) (x_move rfl) ?_
  refine st_gq 10 58 rfl rfl (by decide) ?_
  refine st_c (t_call [.slice ae es.length cae, v_rt] T.cf34 rfl rfl) (sameE34 (es.map turn) (es.map turn) _ _ _ (Own.len hF167 (by simp)).src (Own.len hF171 (by simp)).src) ?_
  rintro _ w175 ⟨e, hx176⟩
  rw [decide_eq_true rfl] at e
  subst e
  refine ⟨_, rfl, ?_⟩
  have hF177 := hF161.ext hx176
  have hF178 := hF162.ext hx176
  have hF179 := hF163.ext hx176
  have hF180 := hF164.ext hx176
  have hF181 := hF165.ext hx176
  have hF182 := hF166.ext hx176
  have hF183 := hF167.ext hx176
  have hF184 := hF168.ext hx176
  have hF185 := hF169.ext hx176
  have hF186 := hF170.ext hx176
  have hF187 := hF171.ext hx176
  have hE188 : Below w0.heap.size w0 w175 := hx176.e hE172 (Nat.le_refl _)
  have hz189 := hE188.le
  have hs190 := hx176.size
  refine st_gq 10 58 rfl rfl (by decide) ?_
  refine st_q (v := .bool false) (x_notB (b := true) rfl) ?_
  refine st_q (v := .bool false) (x_pickF rfl rfl) ?_
  refine st_nil ?_
  refine kn140 _ _ ?_
  refine cndF rfl ?_
  refine skip ?_
  refine kn136 _ _ ?_
  refine seqK fun Q191 kn192 kr193 ke194 => ?_
  refine seqK fun Q195 kn196 kr197 ke198 => ?_
  refine region ?_
  have hns_m : ∀ b, (.slice am (xs.length + 1) cm : Value).ownBlock = some b → ¬ (fun k => (.slice aa (nodesL xs es).length caa : Value).ownBlock = some k ∨ (.slice ac R.length cac : Value).ownBlock = some k ∨ (.slice ae es.length cae : Value).ownBlock = some k) b := fun b hb hs => by
    have h0 := hlo_m b hb
    rcases hs with h | h | h
    · have := hlo_a _ h; omega
    · have := hlo_c _ h; omega
    · have := hlo_e _ h; omega
  have hns_x : ∀ b, (.slice ax (es.length + 1) cx : Value).ownBlock = some b → ¬ (fun k => (.slice aa (nodesL xs es).length caa : Value).ownBlock = some k ∨ (.slice ac R.length cac : Value).ownBlock = some k ∨ (.slice ae es.length cae : Value).ownBlock = some k) b := fun b hb hs => by
    have h0 := hlo_x b hb
    rcases hs with h | h | h
    · have := hlo_a _ h; omega
    · have := hlo_c _ h; omega
    · have := hlo_e _ h; omega
  have hns_b : ∀ b, (v_b : Value).ownBlock = some b → ¬ (fun k => (.slice aa (nodesL xs es).length caa : Value).ownBlock = some k ∨ (.slice ac R.length cac : Value).ownBlock = some k ∨ (.slice ae es.length cae : Value).ownBlock = some k) b := fun b hb hs => by
    have h0 := hlo_b b hb
    rcases hs with h | h | h
    · have := hlo_a _ h; omega
    · have := hlo_c _ h; omega
    · have := hlo_e _ h; omega
  have hns_d : ∀ b, (v_d : Value).ownBlock = some b → ¬ (fun k => (.slice aa (nodesL xs es).length caa : Value).ownBlock = some k ∨ (.slice ac R.length cac : Value).ownBlock = some k ∨ (.slice ae es.length cae : Value).ownBlock = some k) b := fun b hb hs => by
    have h0 := hlo_d b hb
    rcases hs with h | h | h
    · have := hlo_a _ h; omega
    · have := hlo_c _ h; omega
    · have := hlo_e _ h; omega
  have hns_f : ∀ b, (v_f : Value).ownBlock = some b → ¬ (fun k => (.slice aa (nodesL xs es).length caa : Value).ownBlock = some k ∨ (.slice ac R.length cac : Value).ownBlock = some k ∨ (.slice ae es.length cae : Value).ownBlock = some k) b := fun b hb hs => by
    have h0 := hlo_f b hb
    rcases hs with h | h | h
    · have := hlo_a _ h; omega
    · have := hlo_c _ h; omega
    · have := hlo_e _ h; omega
  have hns_rn : ∀ b, (v_rn : Value).ownBlock = some b → ¬ (fun k => (.slice aa (nodesL xs es).length caa : Value).ownBlock = some k ∨ (.slice ac R.length cac : Value).ownBlock = some k ∨ (.slice ae es.length cae : Value).ownBlock = some k) b := fun b hb hs => by
    have h0 := hlo_rn b hb
    rcases hs with h | h | h
    · have := hlo_a _ h; omega
    · have := hlo_c _ h; omega
    · have := hlo_e _ h; omega
  have hns_rr : ∀ b, (v_rr : Value).ownBlock = some b → ¬ (fun k => (.slice aa (nodesL xs es).length caa : Value).ownBlock = some k ∨ (.slice ac R.length cac : Value).ownBlock = some k ∨ (.slice ae es.length cae : Value).ownBlock = some k) b := fun b hb hs => by
    have h0 := hlo_rr b hb
    rcases hs with h | h | h
    · have := hlo_a _ h; omega
    · have := hlo_c _ h; omega
    · have := hlo_e _ h; omega
  have hns_rt : ∀ b, (v_rt : Value).ownBlock = some b → ¬ (fun k => (.slice aa (nodesL xs es).length caa : Value).ownBlock = some k ∨ (.slice ac R.length cac : Value).ownBlock = some k ∨ (.slice ae es.length cae : Value).ownBlock = some k) b := fun b hb hs => by
    have h0 := hlo_rt b hb
    rcases hs with h | h | h
    · have := hlo_a _ h; omega
    · have := hlo_c _ h; omega
    · have := hlo_e _ h; omega
  have hSlow : ∀ k, (fun k => (.slice aa (nodesL xs es).length caa : Value).ownBlock = some k ∨ (.slice ac R.length cac : Value).ownBlock = some k ∨ (.slice ae es.length cae : Value).ownBlock = some k) k → w0.heap.size ≤ k := fun k hs => by
    rcases hs with h | h | h
    · have := hlo_a _ h; omega
    · have := hlo_c _ h; omega
    · have := hlo_e _ h; omega
  have hac : ∀ b, (.slice aa (nodesL xs es).length caa : Value).ownBlock = some b → (.slice ac R.length cac : Value).ownBlock ≠ some b := fun b h1 h2 => by have := hlo_a b h1; have := hlo_c b h2; omega
  have hw_a : ∀ b, (.slice aa (nodesL xs es).length caa : Value).ownBlock = some b → (fun k => (.slice aa (nodesL xs es).length caa : Value).ownBlock = some k ∨ (.slice ac R.length cac : Value).ownBlock = some k ∨ (.slice ae es.length cae : Value).ownBlock = some k) b ∨ w175.heap.size ≤ b := fun b hb => .inl (.inl hb)
  have hw_c : ∀ b, (.slice ac R.length cac : Value).ownBlock = some b → (fun k => (.slice aa (nodesL xs es).length caa : Value).ownBlock = some k ∨ (.slice ac R.length cac : Value).ownBlock = some k ∨ (.slice ae es.length cae : Value).ownBlock = some k) b ∨ w175.heap.size ≤ b := fun b hb => .inl (.inr (.inl hb))
  have hw_e : ∀ b, (.slice ae es.length cae : Value).ownBlock = some b → (fun k => (.slice aa (nodesL xs es).length caa : Value).ownBlock = some k ∨ (.slice ac R.length cac : Value).ownBlock = some k ∨ (.slice ae es.length cae : Value).ownBlock = some k) b ∨ w175.heap.size ≤ b := fun b hb => .inl (.inr (.inr hb))
  have hM199 : Mod (fun k => (.slice aa (nodesL xs es).length caa : Value).ownBlock = some k ∨ (.slice ac R.length cac : Value).ownBlock = some k ∨ (.slice ae es.length cae : Value).ownBlock = some k) w175 w175 := Mod.refl _ _
  have hz200 := hM199.le
  refine st_q (v := .int .i64 ((0 : Nat) : Int)) (x_assign rfl) ?_
  refine st_nil ?_
  refine kn196 _ _ ?_
  refine blockK fun Q201 kn202 kr203 kx204 kb205 => ?_
  refine loopK (α := Nat) (fun x => [(0, .slice a xs.length ca), (1, .slice b es.length cb), (5, .slice am xs.length cm), (6, .slice ax es.length cx), (7, .slice aa ((nodesL xs es).length) caa), (8, v_b), (9, .slice ac R.length cac), (10, v_d), (11, .slice ae es.length cae), (12, v_f), (13, v_rn), (14, v_rr), (15, v_rt), (16, .int .i64 ((x : Nat) : Int))]) (fun x w206 => Mod (fun k => (.slice aa (nodesL xs es).length caa : Value).ownBlock = some k ∨ (.slice ac R.length cac : Value).ownBlock = some k ∨ (.slice ae es.length cae : Value).ownBlock = some k) w175 w206 ∧ x ≤ (nodesL xs es).length ∧ (∃ ys, Own w206.heap w0.heap.size 9 1 (.slice aa (nodesL xs es).length caa) (nodesL xs es).length (flat enS ys)) ∧ (∃ ys, Own w206.heap w0.heap.size 9 1 (.slice ac R.length cac) R.length (flat enS ys)) ∧ (∃ ys, Own w206.heap w0.heap.size 47 3 (.slice ae es.length cae) es.length (flat enE ys))) (fun x => (nodesL xs es).length - x) (0) ⟨rfl, rfl, rfl, rfl, rfl, rfl, rfl, rfl, rfl, rfl, rfl, rfl, rfl, rfl, trivial⟩ ?_ ?_
  ·
    refine ⟨hM199, ?_⟩
    try dsimp only
    exact ⟨Nat.zero_le _, ⟨_, (hF179.weak (by omega))⟩, ⟨_, (hF181.weak (by omega))⟩, ⟨_, (hF183.weak (by omega))⟩⟩
  ·
    rintro τ207 i w208 ⟨hx209, ⟨hi, ⟨ya, hqa⟩, ⟨yc, hqc⟩, ⟨ye, hqe⟩⟩⟩
    try dsimp only at hi ya hqa yc hqc ye hqe
    have hz210 := hx209.le
    intro Q211 kn212 kr213 ke214
    refine seqK fun Q215 kn216 kr217 ke218 => ?_
    refine seqK fun Q219 kn220 kr221 ke222 => ?_
    refine region ?_
    refine st_q (v := .int .i64 ((i : Nat) : Int)) (x_move rfl) ?_
    refine st_q (v := .slice aa ((nodesL xs es).length) caa) (x_move rfl) ?_
    refine st_q (v := .int .i64 (((nodesL xs es).length : Nat) : Int)) (x_lenSl rfl Try.underlying22 rfl) ?_
    refine st_q (v := .bool (decide (i < ((nodesL xs es).length)))) (x_lssN rfl rfl) ?_
    refine st_nil ?_
    refine kn220 _ _ ?_
    refine cnd (p := i < ((nodesL xs es).length)) rfl (fun h223 => ?_) (fun h223 => ?_)
    ·
      refine skip ?_
      refine kn216 _ _ ?_
      refine seqK fun Q224 kn225 kr226 ke227 => ?_
      refine blockK fun Q228 kn229 kr230 kx231 kb232 => ?_
      refine region ?_
      refine st_q (v := .slice aa ((nodesL xs es).length) caa) (x_move rfl) ?_
      refine st_q (v := .int .i64 ((i : Nat) : Int)) (x_move rfl) ?_
      obtain ⟨b233, o234, ha235, hc236⟩ := hqa.src.at (by omega)
      refine st_q (v := .pointer (some ⟨b233, o234 + i * 1, none⟩)) (x_index' T.sl22 rfl ha235 rfl (by omega)) ?_
      have hlx := Own.lenX enS_len hqa
      refine st_s (e_stS (v := .string ((ByteArray.mk #[120]))) (u := (ByteArray.mk #[120])) enS_len T.sz9 rfl rfl rfl hqa ha235 (by omega) (by rfl) ?_)
      intro w237 hG238 hs239 hO240
      have hbk := own_addr (m := (nodesL xs es).length) (c := caa) ha235
      have hM241 := hx209.grown hG238 (fun b e => by have e := Option.some.inj e; subst e; exact hw_a _ hbk)
      have hO242 := hqc.grown hG238 (fun b h1 h2 => by have h2 := Option.some.inj h2; subst h2; exact hac _ hbk h1)
      have hO243 := hqe.gk hG238 (RowK.of hqa.rowk hbk) (by decide)
      refine st_nil ?_
      refine kn229 _ _ ?_
      refine kn225 _ _ ?_
      refine region ?_
      refine st_q (v := .int .i64 ((i : Nat) : Int)) (x_move rfl) ?_
      refine st_q (v := .int .i64 (((i + 1) : Nat) : Int)) (x_addN rfl rfl (by omega)) ?_
      refine st_q (v := .int .i64 (((i + 1) : Nat) : Int)) (x_assign rfl) ?_
      refine st_nil ?_
      refine kn212 _ ((i + 1)) _ ⟨rfl, rfl, rfl, rfl, rfl, rfl, rfl, rfl, rfl, rfl, rfl, rfl, rfl, rfl, trivial⟩ ⟨hM241, ?_⟩ ?_
      ·
        try dsimp only
        exact ⟨by omega, ⟨_, hO240⟩, ⟨_, hO242⟩, ⟨_, hO243⟩⟩
      ·
        (try dsimp only); omega
    ·
      refine exit ?_
      refine ke218 _ _ _ ?_
      refine ke214 _ _ _ ?_
      refine kb205 _ _ ?_
      refine kn192 _ _ ?_
      refine seqK fun Q244 kn245 kr246 ke247 => ?_
      refine seqK fun Q248 kn249 kr250 ke251 => ?_
      refine region ?_
      refine st_q (v := .int .i64 ((0 : Nat) : Int)) (x_assign rfl) ?_
      refine st_nil ?_
      refine kn249 _ _ ?_
      refine blockK fun Q252 kn253 kr254 kx255 kb256 => ?_
      refine loopK (α := Nat) (fun x => [(0, .slice a xs.length ca), (1, .slice b es.length cb), (5, .slice am xs.length cm), (6, .slice ax es.length cx), (7, .slice aa ((nodesL xs es).length) caa), (8, v_b), (9, .slice ac R.length cac), (10, v_d), (11, .slice ae es.length cae), (12, v_f), (13, v_rn), (14, v_rr), (15, v_rt), (17, .int .i64 ((x : Nat) : Int))]) (fun x w257 => Mod (fun k => (.slice aa (nodesL xs es).length caa : Value).ownBlock = some k ∨ (.slice ac R.length cac : Value).ownBlock = some k ∨ (.slice ae es.length cae : Value).ownBlock = some k) w175 w257 ∧ x ≤ R.length ∧ (∃ ys, Own w257.heap w0.heap.size 9 1 (.slice aa (nodesL xs es).length caa) (nodesL xs es).length (flat enS ys)) ∧ (∃ ys, Own w257.heap w0.heap.size 9 1 (.slice ac R.length cac) R.length (flat enS ys)) ∧ (∃ ys, Own w257.heap w0.heap.size 47 3 (.slice ae es.length cae) es.length (flat enE ys))) (fun x => R.length - x) (0) ⟨rfl, rfl, rfl, rfl, rfl, rfl, rfl, rfl, rfl, rfl, rfl, rfl, rfl, rfl, trivial⟩ ?_ ?_
      ·
        refine ⟨hx209, ?_⟩
        try dsimp only
        exact ⟨Nat.zero_le _, ⟨_, hqa⟩, ⟨_, hqc⟩, ⟨_, hqe⟩⟩
      ·
        rintro τ258 i w259 ⟨hx260, ⟨hi, ⟨ya, hqa⟩, ⟨yc, hqc⟩, ⟨ye, hqe⟩⟩⟩
        try dsimp only at hi ya hqa yc hqc ye hqe
        have hz261 := hx260.le
        intro Q262 kn263 kr264 ke265
        refine seqK fun Q266 kn267 kr268 ke269 => ?_
        refine seqK fun Q270 kn271 kr272 ke273 => ?_
        refine region ?_
        refine st_q (v := .int .i64 ((i : Nat) : Int)) (x_move rfl) ?_
        refine st_q (v := .slice ac R.length cac) (x_move rfl) ?_
        refine st_q (v := .int .i64 ((R.length : Nat) : Int)) (x_lenSl rfl Try.underlying22 rfl) ?_
        refine st_q (v := .bool (decide (i < R.length))) (x_lssN rfl rfl) ?_
        refine st_nil ?_
        refine kn271 _ _ ?_
        refine cnd (p := i < R.length) rfl (fun h274 => ?_) (fun h274 => ?_)
        ·
          refine skip ?_
          refine kn267 _ _ ?_
          refine seqK fun Q275 kn276 kr277 ke278 => ?_
          refine blockK fun Q279 kn280 kr281 kx282 kb283 => ?_
          refine region ?_
          refine st_q (v := .slice ac R.length cac) (x_move rfl) ?_
          refine st_q (v := .int .i64 ((i : Nat) : Int)) (x_move rfl) ?_
          obtain ⟨b284, o285, ha286, hc287⟩ := hqc.src.at (by omega)
          refine st_q (v := .pointer (some ⟨b284, o285 + i * 1, none⟩)) (x_index' T.sl22 rfl ha286 rfl (by omega)) ?_
          have hlx := Own.lenX enS_len hqc
          refine st_s (e_stS (v := .string ((ByteArray.mk #[120]))) (u := (ByteArray.mk #[120])) enS_len T.sz9 rfl rfl rfl hqc ha286 (by omega) (by rfl) ?_)
          intro w288 hG289 hs290 hO291
          have hbk := own_addr (m := R.length) (c := cac) ha286
          have hM292 := hx260.grown hG289 (fun b e => by have e := Option.some.inj e; subst e; exact hw_c _ hbk)
          have hO293 := hqa.grown hG289 (fun b h1 h2 => by have h2 := Option.some.inj h2; subst h2; exact hac _ h1 hbk)
          have hO294 := hqe.gk hG289 (RowK.of hqc.rowk hbk) (by decide)
          refine st_nil ?_
          refine kn280 _ _ ?_
          refine kn276 _ _ ?_
          refine region ?_
          refine st_q (v := .int .i64 ((i : Nat) : Int)) (x_move rfl) ?_
          refine st_q (v := .int .i64 (((i + 1) : Nat) : Int)) (x_addN rfl rfl (by omega)) ?_
          refine st_q (v := .int .i64 (((i + 1) : Nat) : Int)) (x_assign rfl) ?_
          refine st_nil ?_
          refine kn263 _ ((i + 1)) _ ⟨rfl, rfl, rfl, rfl, rfl, rfl, rfl, rfl, rfl, rfl, rfl, rfl, rfl, rfl, trivial⟩ ⟨hM292, ?_⟩ ?_
          ·
            try dsimp only
            exact ⟨by omega, ⟨_, hO293⟩, ⟨_, hO291⟩, ⟨_, hO294⟩⟩
          ·
            (try dsimp only); omega
        ·
          refine exit ?_
          refine ke269 _ _ _ ?_
          refine ke265 _ _ _ ?_
          refine kb256 _ _ ?_
          refine kn245 _ _ ?_
          refine seqK fun Q295 kn296 kr297 ke298 => ?_
          refine seqK fun Q299 kn300 kr301 ke302 => ?_
          refine region ?_
          refine st_q (v := .int .i64 ((0 : Nat) : Int)) (x_assign rfl) ?_
          refine st_nil ?_
          refine kn300 _ _ ?_
          refine blockK fun Q303 kn304 kr305 kx306 kb307 => ?_
          refine loopK (α := Nat) (fun x => [(0, .slice a xs.length ca), (1, .slice b es.length cb), (5, .slice am xs.length cm), (6, .slice ax es.length cx), (7, .slice aa ((nodesL xs es).length) caa), (8, v_b), (9, .slice ac R.length cac), (10, v_d), (11, .slice ae es.length cae), (12, v_f), (13, v_rn), (14, v_rr), (15, v_rt), (18, .int .i64 ((x : Nat) : Int))]) (fun x w308 => Mod (fun k => (.slice aa (nodesL xs es).length caa : Value).ownBlock = some k ∨ (.slice ac R.length cac : Value).ownBlock = some k ∨ (.slice ae es.length cae : Value).ownBlock = some k) w175 w308 ∧ x ≤ es.length ∧ (∃ ys, Own w308.heap w0.heap.size 9 1 (.slice aa (nodesL xs es).length caa) (nodesL xs es).length (flat enS ys)) ∧ (∃ ys, Own w308.heap w0.heap.size 9 1 (.slice ac R.length cac) R.length (flat enS ys)) ∧ (∃ ys, Own w308.heap w0.heap.size 47 3 (.slice ae es.length cae) es.length (flat enE ys))) (fun x => es.length - x) (0) ⟨rfl, rfl, rfl, rfl, rfl, rfl, rfl, rfl, rfl, rfl, rfl, rfl, rfl, rfl, trivial⟩ ?_ ?_
          ·
            refine ⟨hx260, ?_⟩
            try dsimp only
            exact ⟨Nat.zero_le _, ⟨_, hqa⟩, ⟨_, hqc⟩, ⟨_, hqe⟩⟩
          ·
            rintro τ309 i w310 ⟨hx311, ⟨hi, ⟨ya, hqa⟩, ⟨yc, hqc⟩, ⟨ye, hqe⟩⟩⟩
            try dsimp only at hi ya hqa yc hqc ye hqe
            have hz312 := hx311.le
            intro Q313 kn314 kr315 ke316
            refine seqK fun Q317 kn318 kr319 ke320 => ?_
            refine seqK fun Q321 kn322 kr323 ke324 => ?_
            refine region ?_
            refine st_q (v := .int .i64 ((i : Nat) : Int)) (x_move rfl) ?_
            refine st_q (v := .slice ae es.length cae) (x_move rfl) ?_
            refine st_q (v := .int .i64 ((es.length : Nat) : Int)) (x_lenSl rfl Try.underlying23 rfl) ?_
            refine st_q (v := .bool (decide (i < es.length))) (x_lssN rfl rfl) ?_
            refine st_nil ?_
            refine kn322 _ _ ?_
            refine cnd (p := i < es.length) rfl (fun h325 => ?_) (fun h325 => ?_)
            ·
              refine skip ?_
              refine kn318 _ _ ?_
              refine seqK fun Q326 kn327 kr328 ke329 => ?_
              refine blockK fun Q330 kn331 kr332 kx333 kb334 => ?_
              refine region ?_
              refine st_q (v := .slice ae es.length cae) (x_move rfl) ?_
              refine st_q (v := .int .i64 ((i : Nat) : Int)) (x_move rfl) ?_
              refine st_q (v := .agg #[.string ((ByteArray.mk #[120])), .string ByteArray.empty, .bool false]) (x_build (fun _ => by kernel_rfl)) ?_
              obtain ⟨b335, o336, ha337, hc338⟩ := hqe.src.at (by omega)
              refine st_q (v := .pointer (some ⟨b335, o336 + i * 3, none⟩)) (x_index' T.sl23 rfl ha337 rfl (by omega)) ?_
              have hlx := Own.lenX enE_len hqe
              refine st_s (e_stS (v := .agg #[.string ((ByteArray.mk #[120])), .string ByteArray.empty, .bool false]) (u := ((ByteArray.mk #[120]), ByteArray.empty, false)) enE_len T.sz47 rfl rfl rfl hqe ha337 (by omega) (by rfl) ?_)
              intro w339 hG340 hs341 hO342
              have hbk := own_addr (m := es.length) (c := cae) ha337
              have hM343 := hx311.grown hG340 (fun b e => by have e := Option.some.inj e; subst e; exact hw_e _ hbk)
              have hO344 := hqa.gk hG340 (RowK.of hqe.rowk hbk) (by decide)
              have hO345 := hqc.gk hG340 (RowK.of hqe.rowk hbk) (by decide)
              refine st_nil ?_
              refine kn331 _ _ ?_
              refine kn327 _ _ ?_
              refine region ?_
              refine st_q (v := .int .i64 ((i : Nat) : Int)) (x_move rfl) ?_
              refine st_q (v := .int .i64 (((i + 1) : Nat) : Int)) (x_addN rfl rfl (by omega)) ?_
              refine st_q (v := .int .i64 (((i + 1) : Nat) : Int)) (x_assign rfl) ?_
              refine st_nil ?_
              refine kn314 _ ((i + 1)) _ ⟨rfl, rfl, rfl, rfl, rfl, rfl, rfl, rfl, rfl, rfl, rfl, rfl, rfl, rfl, trivial⟩ ⟨hM343, ?_⟩ ?_
              ·
                try dsimp only
                exact ⟨by omega, ⟨_, hO344⟩, ⟨_, hO345⟩, ⟨_, hO342⟩⟩
              ·
                (try dsimp only); omega
            ·
              refine exit ?_
              refine ke320 _ _ _ ?_
              refine ke316 _ _ _ ?_
              refine kb307 _ _ ?_
              refine kn296 _ _ ?_
              refine seqK fun Q346 kn347 kr348 ke349 => ?_
              refine seqK fun Q350 kn351 kr352 ke353 => ?_
              refine region ?_
              refine st_q (v := .int .i64 ((0 : Nat) : Int)) (x_assign rfl) ?_
              refine st_nil ?_
              refine kn351 _ _ ?_
              refine blockK fun Q354 kn355 kr356 kx357 kb358 => ?_
              refine loopK (α := Nat × Value × Value × Value × (List ByteArray) × (List ByteArray) × (List Edge)) (fun x => [(0, .slice a xs.length ca), (1, .slice b es.length cb), (5, .slice am xs.length cm), (6, .slice ax es.length cx), (7, x.2.1), (8, v_b), (9, x.2.2.1), (10, v_d), (11, x.2.2.2.1), (12, v_f), (13, v_rn), (14, v_rr), (15, v_rt), (19, .int .i64 ((x.1 : Nat) : Int))]) (fun x w359 => Mod (fun k => (.slice aa (nodesL xs es).length caa : Value).ownBlock = some k ∨ (.slice ac R.length cac : Value).ownBlock = some k ∨ (.slice ae es.length cae : Value).ownBlock = some k) w175 w359 ∧ x.1 ≤ 40 ∧ Own w359.heap w0.heap.size 9 1 x.2.1 ((nodesL xs es).length + x.1) (flat enS x.2.2.2.2.1) ∧ (∀ b, x.2.1.ownBlock = some b → (fun k => (.slice aa (nodesL xs es).length caa : Value).ownBlock = some k ∨ (.slice ac R.length cac : Value).ownBlock = some k ∨ (.slice ae es.length cae : Value).ownBlock = some k) b ∨ w175.heap.size ≤ b) ∧ Own w359.heap w0.heap.size 9 1 x.2.2.1 (R.length + x.1) (flat enS x.2.2.2.2.2.1) ∧ (∀ b, x.2.2.1.ownBlock = some b → (fun k => (.slice aa (nodesL xs es).length caa : Value).ownBlock = some k ∨ (.slice ac R.length cac : Value).ownBlock = some k ∨ (.slice ae es.length cae : Value).ownBlock = some k) b ∨ w175.heap.size ≤ b) ∧ Own w359.heap w0.heap.size 47 3 x.2.2.2.1 (es.length + x.1) (flat enE x.2.2.2.2.2.2) ∧ (∀ b, x.2.2.2.1.ownBlock = some b → (fun k => (.slice aa (nodesL xs es).length caa : Value).ownBlock = some k ∨ (.slice ac R.length cac : Value).ownBlock = some k ∨ (.slice ae es.length cae : Value).ownBlock = some k) b ∨ w175.heap.size ≤ b) ∧ (∀ b, x.2.1.ownBlock = some b → x.2.2.1.ownBlock ≠ some b)) (fun x => 40 - x.1) (0, .slice aa (nodesL xs es).length caa, .slice ac R.length cac, .slice ae es.length cae, ya, yc, ye) ⟨rfl, rfl, rfl, rfl, rfl, rfl, rfl, rfl, rfl, rfl, rfl, rfl, rfl, rfl, trivial⟩ ?_ ?_
              ·
                refine ⟨hx311, ?_⟩
                try dsimp only
                exact ⟨by omega, hqa, hw_a, hqc, hw_c, hqe, hw_e, hac⟩
              ·
                rintro τ360 ⟨i, va, vc, ve, ya, yc, ye⟩ w361 ⟨hx362, ⟨hi, hqa, hwha, hqc, hwhc, hqe, hwhe, hac4⟩⟩
                try dsimp only at hi hqa hwha hqc hwhc hqe hwhe hac4
                have hz363 := hx362.le
                intro Q364 kn365 kr366 ke367
                obtain ⟨a368, c369, rfl, hm370, hm371⟩ := hqa.src.form
                obtain ⟨a372, c373, rfl, hm374, hm375⟩ := hqc.src.form
                obtain ⟨a376, c377, rfl, hm378, hm379⟩ := hqe.src.form
                have hnl := nodesL_len xs es
                have hRl := hR.len
                refine seqK fun Q380 kn381 kr382 ke383 => ?_
                refine seqK fun Q384 kn385 kr386 ke387 => ?_
                refine region ?_
                refine st_q (v := .int .i64 ((i : Nat) : Int)) (x_move rfl) ?_
                refine st_q (v := .bool (decide (i < 40))) (x_lssN rfl rfl) ?_
                refine st_nil ?_
                refine kn385 _ _ ?_
                refine cnd (p := i < 40) rfl (fun h388 => ?_) (fun h388 => ?_)
                ·
                  refine skip ?_
                  refine kn381 _ _ ?_
                  refine seqK fun Q389 kn390 kr391 ke392 => ?_
                  refine blockK fun Q393 kn394 kr395 kx396 kb397 => ?_
                  refine seqK fun Q398 kn399 kr400 ke401 => ?_
                  refine region ?_
                  refine st_q (v := .slice a368 (((nodesL xs es).length + i)) c369) (x_move rfl) ?_
                  refine st_e (e_buildSlice (cs := [.string ((ByteArray.mk #[120]))]) (e := 9) (fun _ => by kernel_rfl) ?_)
                  intro w402 hA403
                  have hx404 := hA403.ext
                  have hs405 := hA403.size
                  have hB406 : Blk w402.heap w361.heap.size [.string ((ByteArray.mk #[120]))] 9 := hA403.new
                  have hF407 := hqa.ext hx404
                  have hF408 := hqc.ext hx404
                  have hF409 := hqe.ext hx404
                  have hE410 : Mod (fun k => (.slice aa (nodesL xs es).length caa : Value).ownBlock = some k ∨ (.slice ac R.length cac : Value).ownBlock = some k ∨ (.slice ae es.length cae : Value).ownBlock = some k) w175 w402 := hx362.ext hx404
                  have hz411 := hE410.le
                  have hs412 := hx404.size
                  refine st_e (e_appendX T.sl22 rfl rfl hF407 (hB406.src1 (k := 1) (m := 1) rfl (by omega)) (ones (by rfl)) (by omega) (by decide) (by omega) ?_)
                  intro v413 w414 hO415 hG416 hN417 hW418
                  have hF419 := hF408.grown hG416 (fun b hb e => hac4 b e hb)
                  have hF420 := hF409.gk (hG416) (hF407.rowk) (by decide)
                  have hE421 : Mod (fun k => (.slice aa (nodesL xs es).length caa : Value).ownBlock = some k ∨ (.slice ac R.length cac : Value).ownBlock = some k ∨ (.slice ae es.length cae : Value).ownBlock = some k) w175 w414 := hE410.grown hG416 (fun b hb => hwha b hb)
                  have hz422 := hE421.le
                  have hs423 := hG416.size
                  have hO424 := Own.snoc (enc := enS) (u := (ByteArray.mk #[120])) hO415
                  obtain ⟨a425, c426, rfl, hm427, hm428⟩ := hO424.src.form
                  have hwh429 : ∀ b, (.slice a425 ((((nodesL xs es).length + i) + 1)) c426 : Value).ownBlock = some b → (fun k => (.slice aa (nodesL xs es).length caa : Value).ownBlock = some k ∨ (.slice ac R.length cac : Value).ownBlock = some k ∨ (.slice ae es.length cae : Value).ownBlock = some k) b ∨ w175.heap.size ≤ b := Where.wh hW418 hwha (by omega)
                  have hac430 : ∀ b, (.slice a425 ((((nodesL xs es).length + i) + 1)) c426 : Value).ownBlock = some b → (.slice a372 ((R.length + i)) c373 : Value).ownBlock ≠ some b := Where.apart hW418 hac4 hF408
                  refine st_q (v := .slice a425 ((((nodesL xs es).length + i) + 1)) c426) (x_assign rfl) ?_
                  refine st_nil ?_
                  refine kn399 _ _ ?_
                  refine seqK fun Q431 kn432 kr433 ke434 => ?_
                  refine region ?_
                  refine st_q (v := .slice a372 ((R.length + i)) c373) (x_move rfl) ?_
                  refine st_e (e_buildSlice (cs := [.string ((ByteArray.mk #[120]))]) (e := 9) (fun _ => by kernel_rfl) ?_)
                  intro w435 hA436
                  have hx437 := hA436.ext
                  have hs438 := hA436.size
                  have hB439 : Blk w435.heap w414.heap.size [.string ((ByteArray.mk #[120]))] 9 := hA436.new
                  have hF440 := hF419.ext hx437
                  have hF441 := hF420.ext hx437
                  have hF442 := hO424.ext hx437
                  have hE443 : Mod (fun k => (.slice aa (nodesL xs es).length caa : Value).ownBlock = some k ∨ (.slice ac R.length cac : Value).ownBlock = some k ∨ (.slice ae es.length cae : Value).ownBlock = some k) w175 w435 := hE421.ext hx437
                  have hz444 := hE443.le
                  have hs445 := hx437.size
                  refine st_e (e_appendX T.sl22 rfl rfl hF440 (hB439.src1 (k := 1) (m := 1) rfl (by omega)) (ones (by rfl)) (by omega) (by decide) (by omega) ?_)
                  intro v446 w447 hO448 hG449 hN450 hW451
                  have hF452 := hF441.gk (hG449) (hF440.rowk) (by decide)
                  have hF453 := hF442.grown hG449 (fun b hb e => hac430 b hb e)
                  have hE454 : Mod (fun k => (.slice aa (nodesL xs es).length caa : Value).ownBlock = some k ∨ (.slice ac R.length cac : Value).ownBlock = some k ∨ (.slice ae es.length cae : Value).ownBlock = some k) w175 w447 := hE443.grown hG449 (fun b hb => hwhc b hb)
                  have hz455 := hE454.le
                  have hs456 := hG449.size
                  have hO457 := Own.snoc (enc := enS) (u := (ByteArray.mk #[120])) hO448
                  obtain ⟨a458, c459, rfl, hm460, hm461⟩ := hO457.src.form
                  have hwh462 : ∀ b, (.slice a458 (((R.length + i) + 1)) c459 : Value).ownBlock = some b → (fun k => (.slice aa (nodesL xs es).length caa : Value).ownBlock = some k ∨ (.slice ac R.length cac : Value).ownBlock = some k ∨ (.slice ae es.length cae : Value).ownBlock = some k) b ∨ w175.heap.size ≤ b := Where.wh hW451 hwhc (by omega)
                  have hac463 : ∀ b, (.slice a425 ((((nodesL xs es).length + i) + 1)) c426 : Value).ownBlock = some b → (.slice a458 (((R.length + i) + 1)) c459 : Value).ownBlock ≠ some b := fun b h1 h2 => Where.apart hW451 (fun b h3 h4 => hac430 b h4 h3) hF442 b h2 h1
                  refine st_q (v := .slice a458 (((R.length + i) + 1)) c459) (x_assign rfl) ?_
                  refine st_nil ?_
                  refine kn432 _ _ ?_
                  refine region ?_
                  refine st_q (v := .slice a376 ((es.length + i)) c377) (x_move rfl) ?_
                  refine st_q (v := .agg #[.string ((ByteArray.mk #[120])), .string ByteArray.empty, .bool false]) (x_build (fun _ => by kernel_rfl)) ?_
                  refine st_e (e_buildSlice (cs := [.string ((ByteArray.mk #[120])), .string ByteArray.empty, .bool false]) (e := 47) (fun _ => by kernel_rfl) ?_)
                  intro w464 hA465
                  have hx466 := hA465.ext
                  have hs467 := hA465.size
                  have hB468 : Blk w464.heap w447.heap.size [.string ((ByteArray.mk #[120])), .string ByteArray.empty, .bool false] 47 := hA465.new
                  have hF469 := hF452.ext hx466
                  have hF470 := hF453.ext hx466
                  have hF471 := hO457.ext hx466
                  have hE472 : Mod (fun k => (.slice aa (nodesL xs es).length caa : Value).ownBlock = some k ∨ (.slice ac R.length cac : Value).ownBlock = some k ∨ (.slice ae es.length cae : Value).ownBlock = some k) w175 w464 := hE454.ext hx466
                  have hz473 := hE472.le
                  have hs474 := hx466.size
                  refine st_e (e_appendX T.sl23 rfl rfl hF469 (hB468.src1 (k := 3) (m := 1) rfl (by omega)) (ones (by rfl)) (by omega) (by decide) (by omega) ?_)
                  intro v475 w476 hO477 hG478 hN479 hW480
                  have hF481 := hF470.gk (hG478) (hF469.rowk) (by decide)
                  have hF482 := hF471.gk (hG478) (hF469.rowk) (by decide)
                  have hE483 : Mod (fun k => (.slice aa (nodesL xs es).length caa : Value).ownBlock = some k ∨ (.slice ac R.length cac : Value).ownBlock = some k ∨ (.slice ae es.length cae : Value).ownBlock = some k) w175 w476 := hE472.grown hG478 (fun b hb => hwhe b hb)
                  have hz484 := hE483.le
                  have hs485 := hG478.size
                  have hO486 := Own.snoc (enc := enE) (u := ((ByteArray.mk #[120]), ByteArray.empty, false)) hO477
                  obtain ⟨a487, c488, rfl, hm489, hm490⟩ := hO486.src.form
                  have hwh491 : ∀ b, (.slice a487 (((es.length + i) + 1)) c488 : Value).ownBlock = some b → (fun k => (.slice aa (nodesL xs es).length caa : Value).ownBlock = some k ∨ (.slice ac R.length cac : Value).ownBlock = some k ∨ (.slice ae es.length cae : Value).ownBlock = some k) b ∨ w175.heap.size ≤ b := Where.wh hW480 hwhe (by omega)
                  refine st_q (v := .slice a487 (((es.length + i) + 1)) c488) (x_assign rfl) ?_
                  refine st_nil ?_
                  refine kn394 _ _ ?_
                  refine kn390 _ _ ?_
                  refine region ?_
                  refine st_q (v := .int .i64 ((i : Nat) : Int)) (x_move rfl) ?_
                  refine st_q (v := .int .i64 (((i + 1) : Nat) : Int)) (x_addN rfl rfl (by omega)) ?_
                  refine st_q (v := .int .i64 (((i + 1) : Nat) : Int)) (x_assign rfl) ?_
                  refine st_nil ?_
                  refine kn365 _ ((i + 1), .slice a425 ((((nodesL xs es).length + i) + 1)) c426, .slice a458 (((R.length + i) + 1)) c459, .slice a487 (((es.length + i) + 1)) c488, (ya ++ [(ByteArray.mk #[120])]), (yc ++ [(ByteArray.mk #[120])]), (ye ++ [((ByteArray.mk #[120]), ByteArray.empty, false)])) _ ⟨rfl, rfl, rfl, rfl, rfl, rfl, rfl, rfl, rfl, rfl, rfl, rfl, rfl, rfl, trivial⟩ ⟨hE483, ?_⟩ ?_
                  ·
                    try dsimp only
                    exact ⟨by omega, hF481, hwh429, hF482, hwh462, hO486, hwh491, hac463⟩
                  ·
                    (try dsimp only); omega
                ·
                  refine exit ?_
                  refine ke383 _ _ _ ?_
                  refine ke367 _ _ _ ?_
                  refine kb358 _ _ ?_
                  refine kn347 _ _ ?_
                  refine seqK fun Q492 kn493 kr494 ke495 => ?_
                  refine seqK fun Q496 kn497 kr498 ke499 => ?_
                  refine region ?_
                  refine st_q (v := .slice a368 (((nodesL xs es).length + i)) c369) (x_move rfl) ?_
                  refine st_q (v := .int .i64 ((((nodesL xs es).length + i) : Nat) : Int)) (x_lenSl rfl Try.underlying22 rfl) ?_
                  refine st_q (v := .slice a372 ((R.length + i)) c373) (x_move rfl) ?_
                  refine st_q (v := .int .i64 (((R.length + i) : Nat) : Int)) (x_lenSl rfl Try.underlying22 rfl) ?_
                  refine st_q (v := .int .i64 (((((nodesL xs es).length + i) + (R.length + i)) : Nat) : Int)) (x_addN rfl rfl (by omega)) ?_
                  refine st_q (v := .slice a376 ((es.length + i)) c377) (x_move rfl) ?_
                  refine st_q (v := .int .i64 (((es.length + i) : Nat) : Int)) (x_lenSl rfl Try.underlying23 rfl) ?_
                  refine st_q (v := .int .i64 ((((((nodesL xs es).length + i) + (R.length + i)) + (es.length + i)) : Nat) : Int)) (x_addN rfl rfl (by omega)) ?_
                  refine st_q (v := .bool (decide ((((((nodesL xs es).length + i) + (R.length + i)) + (es.length + i))) < 120))) (x_lssN rfl rfl) ?_
                  refine st_if (p := (((((nodesL xs es).length + i) + (R.length + i)) + (es.length + i))) < 120) (x_move rfl) (fun h500 => ?_) (fun h500 => ?_)
                  ·
                    exact absurd h500 (by omega)
                  ·
                    refine st_gq 9 115 rfl rfl (by decide) ?_
                    refine st_q (v := .slice am xs.length cm) (x_move rfl) ?_
                    refine st_gq 9 115 rfl rfl (by decide) ?_
                    refine st_q (v := .slice a xs.length ca) (x_move rfl) ?_
                    refine st_gq 9 115 rfl rfl (by decide) ?_
                    refine st_q (v := .slice ax es.length cx) (x_move rfl) ?_
                    refine st_gq 9 115 rfl rfl (by decide) ?_
                    refine st_q (v := .slice b es.length cb) (x_move rfl) ?_
                    refine st_gq 9 115 rfl rfl (by decide) ?_
                    refine st_c (t_call [.slice am xs.length cm, .slice a xs.length ca, .slice ax es.length cx, .slice b es.length cb] T.cf14 rfl rfl) (left14 xs es _ _ _ _ _ _ _ (hF177.mod hx362 hns_m).src (ha.below (Go.Eng.Below.mod' hE188 hx362 hSlow (Nat.le_refl _))) (hF178.mod hx362 hns_x).src (hb.below (Go.Eng.Below.mod' hE188 hx362 hSlow (Nat.le_refl _)))) ?_
                    rintro _ w501 ⟨rfl, hx502⟩
                    refine ⟨_, rfl, ?_⟩
                    have hF503 := hqa.ext hx502
                    have hF504 := hqc.ext hx502
                    have hF505 := hqe.ext hx502
                    have hE506 : Mod (fun k => (.slice aa (nodesL xs es).length caa : Value).ownBlock = some k ∨ (.slice ac R.length cac : Value).ownBlock = some k ∨ (.slice ae es.length cae : Value).ownBlock = some k) w175 w501 := hx362.ext hx502
                    have hz507 := hE506.le
                    have hs508 := hx502.size
                    refine st_gq 9 115 rfl rfl (by decide) ?_
                    refine st_q (v := .bool false) (x_notB (b := true) rfl) ?_
                    refine st_q (v := .bool false) (x_pickF rfl rfl) ?_
                    refine st_nil ?_
                    refine kn497 _ _ ?_
                    refine cndF rfl ?_
                    refine skip ?_
                    refine kn493 _ _ ?_
                    refine seqK fun Q509 kn510 kr511 ke512 => ?_
                    refine region ?_
                    refine st_q (v := v_b) (x_move rfl) ?_
                    refine st_q (v := v_rn) (x_move rfl) ?_
                    refine st_c (t_call [v_b, v_rn] T.cf29 rfl rfl) (same29 (nodesL xs es) (nodesL xs es) _ _ _ (hF180.mod hE506 hns_b).src (hF185.mod hE506 hns_rn).src) ?_
                    rintro _ w513 ⟨e, hx514⟩
                    rw [decide_eq_true rfl] at e
                    subst e
                    refine ⟨_, rfl, ?_⟩
                    have hF515 := hF503.ext hx514
                    have hF516 := hF504.ext hx514
                    have hF517 := hF505.ext hx514
                    have hE518 : Mod (fun k => (.slice aa (nodesL xs es).length caa : Value).ownBlock = some k ∨ (.slice ac R.length cac : Value).ownBlock = some k ∨ (.slice ae es.length cae : Value).ownBlock = some k) w175 w513 := hE506.ext hx514
                    have hz519 := hE518.le
                    have hs520 := hx514.size
                    refine st_q (v := .bool true) (x_move rfl) ?_
                    refine st_gq 3 126 rfl rfl (by decide) ?_
                    refine st_q (v := v_d) (x_move rfl) ?_
                    refine st_gq 3 126 rfl rfl (by decide) ?_
                    refine st_q (v := v_rr) (x_move rfl) ?_
                    refine st_gq 3 126 rfl rfl (by decide) ?_
                    refine st_c (t_call [v_d, v_rr] T.cf29 rfl rfl) (same29 R R _ _ _ (hF182.mod hE518 hns_d).src (hF186.mod hE518 hns_rr).src) ?_
                    rintro _ w521 ⟨e, hx522⟩
                    rw [decide_eq_true rfl] at e
                    subst e
                    refine ⟨_, rfl, ?_⟩
                    have hF523 := hF515.ext hx522
                    have hF524 := hF516.ext hx522
                    have hF525 := hF517.ext hx522
                    have hE526 : Mod (fun k => (.slice aa (nodesL xs es).length caa : Value).ownBlock = some k ∨ (.slice ac R.length cac : Value).ownBlock = some k ∨ (.slice ae es.length cae : Value).ownBlock = some k) w175 w521 := hE518.ext hx522
                    have hz527 := hE526.le
                    have hs528 := hx522.size
                    refine st_q (v := .bool true) (x_pickT rfl rfl) ?_
                    refine st_q (v := .bool true) (x_move rfl) ?_
                    refine st_gq 8 131 rfl rfl (by decide) ?_
                    refine st_q (v := v_f) (x_move rfl) ?_
                    refine st_gq 8 131 rfl rfl (by decide) ?_
                    refine st_q (v := v_rt) (x_move rfl) ?_
                    refine st_gq 8 131 rfl rfl (by decide) ?_
                    refine st_c (t_call [v_f, v_rt] T.cf34 rfl rfl) (sameE34 (es.map turn) (es.map turn) _ _ _ (Own.len (hF184.mod hE526 hns_f) (by simp)).src (Own.len (hF187.mod hE526 hns_rt) (by simp)).src) ?_
                    rintro _ w529 ⟨e, hx530⟩
                    rw [decide_eq_true rfl] at e
                    subst e
                    refine ⟨_, rfl, ?_⟩
                    have hF531 := hF523.ext hx530
                    have hF532 := hF524.ext hx530
                    have hF533 := hF525.ext hx530
                    have hE534 : Mod (fun k => (.slice aa (nodesL xs es).length caa : Value).ownBlock = some k ∨ (.slice ac R.length cac : Value).ownBlock = some k ∨ (.slice ae es.length cae : Value).ownBlock = some k) w175 w529 := hE526.ext hx530
                    have hz535 := hE534.le
                    have hs536 := hx530.size
                    refine st_q (v := .bool true) (x_pickT rfl rfl) ?_
                    refine st_q (v := .bool true) (x_move rfl) ?_
                    refine st_gq 13 136 rfl rfl (by decide) ?_
                    refine st_c (t_call [] T.cf15 rfl rfl) (known15 _) ?_
                    rintro _ w537 ⟨rfl, hx538⟩
                    refine ⟨_, rfl, ?_⟩
                    have hF539 := hF531.ext hx538
                    have hF540 := hF532.ext hx538
                    have hF541 := hF533.ext hx538
                    have hE542 : Mod (fun k => (.slice aa (nodesL xs es).length caa : Value).ownBlock = some k ∨ (.slice ac R.length cac : Value).ownBlock = some k ∨ (.slice ae es.length cae : Value).ownBlock = some k) w175 w537 := hE534.ext hx538
                    have hz543 := hE542.le
                    have hs544 := hx538.size
                    refine st_q (v := .bool true) (x_pickT rfl rfl) ?_
                    refine st_q (v := .bool true) (x_assign rfl) ?_
                    refine st_nil ?_
                    refine kn510 _ _ ?_
                    refine ret ?_
                    refine leave1 (P := Try.prog) (fn := Try.f8) (t := 4) (v := .bool true) rfl rfl ?_
                    exact ⟨rfl, (Go.Eng.Below.mod' hE188 hE542 hSlow (Nat.le_refl _))⟩

end Go.Proofs.Ytknfjgbipfpnjaa
