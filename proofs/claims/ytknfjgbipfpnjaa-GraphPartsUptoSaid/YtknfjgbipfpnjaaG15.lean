import Derived.Test.YtknfjgbipfpnjaaGP
namespace Go.Proofs.Ytknfjgbipfpnjaa
open Go.RowKit Go.Eng Go.OrdPure
open Go.Knot Go.HeapPure
theorem T.na26 : NA Try.prog 26 := fun _ => by kernel_rfl

theorem Blk.md {S : Nat → Prop} {w w' : World} {b : Nat} {cs : List Value} {T : TypeId} (h : Blk w.heap b cs T) (hM : Mod S w w') (hS : ∀ k, S k → kindOf w.heap k = 87 ∨ kindOf w.heap k = 89) (h1 : T + 3 ≠ 87) (h2 : T + 3 ≠ 89) : Blk w'.heap b cs T := h.mod hM fun hs => by have := hS _ hs; rw [h.kind] at this; exact this.elim h1 h2
theorem OB.md {S : Nat → Prop} {w w' : World} {lo k b c : Nat} {cs : List Value} {T : TypeId} (h : OB w.heap lo T k b c cs) (hM : Mod S w w') (hS : ∀ k, S k → kindOf w.heap k = 87 ∨ kindOf w.heap k = 89) (h1 : T + 3 ≠ 87) (h2 : T + 3 ≠ 89) : OB w'.heap lo T k b c cs := h.mod hM fun hs => by have := hS _ hs; rw [h.kind] at this; exact this.elim h1 h2
theorem Own.md {S : Nat → Prop} {w w' : World} {lo k m : Nat} {v : Value} {cs : List Value} {T : TypeId} (h : Own w.heap lo T k v m cs) (hM : Mod S w w') (hS : ∀ k, S k → kindOf w.heap k = 87 ∨ kindOf w.heap k = 89) (h1 : T + 3 ≠ 87) (h2 : T + 3 ≠ 89) : Own w'.heap lo T k v m cs := h.mod hM fun b hb hs => by have := hS _ hs; rw [h.kind hb] at this; exact this.elim h1 h2
theorem Fam.md {α : Type} {enc : α → List Value} {S : Nat → Prop} {w w' : World} {lo : Nat} {T : TypeId} {vs : List Value} {rows : List (List α)} (h : Fam w.heap lo T enc vs rows) (hM : Mod S w w') (hS : ∀ k, S k → kindOf w.heap k = 87 ∨ kindOf w.heap k = 89) (h1 : T + 3 ≠ 87) (h2 : T + 3 ≠ 89) : Fam w'.heap lo T enc vs rows := ⟨h.len, fun i hi => Own.md (h.own i hi) hM hS h1 h2, h.apart⟩
theorem HeapR.kinds {h : Array Obj} {lo kE : Nat} {encE : Nat × Nat → List Value} {b : Nat} {g v : Value} {es : List (Nat × Nat)} {nx : Nat} (hr : HeapR h lo 84 86 kE encE b g v es nx) : ∀ k, (k = b ∨ v.ownBlock = some k) → kindOf h k = 87 ∨ kindOf h k = 89 := by
  rintro k (rfl | hk)
  · exact .inl hr.blk.kind
  · exact .inr (hr.own.kind hk)
theorem HeapR.gk {w w' : World} {lo kE : Nat} {encE : Nat × Nat → List Value} {b : Nat} {g v : Value} {es : List (Nat × Nat)} {nx : Nat} {row : Option Nat} {K : Nat} (hr : HeapR w.heap lo 84 86 kE encE b g v es nx) (hg : w.grownBy w' row) (hk : RowK w.heap row K) (h1 : 87 ≠ K) (h2 : 89 ≠ K) : HeapR w'.heap lo 84 86 kE encE b g v es nx := ⟨hr.ge, hr.blk.gk hg hk h1, hr.own.gk hg hk h2, hr.ne⟩
theorem HeapR.low' {h : Array Obj} {lo kE : Nat} {encE : Nat × Nat → List Value} {b : Nat} {g v : Value} {es : List (Nat × Nat)} {nx : Nat} (hr : HeapR h lo 84 86 kE encE b g v es nx) : ∀ i, (i = b ∨ v.ownBlock = some i) → lo ≤ i := by
  rintro i (rfl | hv)
  · exact hr.ge
  · exact (hr.own.lt hv).1
theorem x_sliceHM {P : Program} {n : Nat} {σ : Nat → Value} {w : World} {ty t : TypeId} {x y u : Operand} {e : TypeId} {a : Option Addr} {l c j q k : Nat} {kk kl : IntKind} {bb : Nat} {z : Value} (hS : SL P t e k bb z) (hx : ev n σ x = .slice a l c) (hy : ev n σ y = .int kk (j : Int)) (hu : ev n σ u = .int kl (q : Int)) (hj : j ≤ q) (hq : q ≤ c) : Ex P (ev n σ) w (.slice t x none (some y) (some u)) ty (.slice a j q) := by
  intro _ _ _ _
  obtain ⟨inf, hi1, hi2, _, _⟩ := hS.inf
  have e2 : Option.map (fun x : Addr => x.add 0) a = a := by cases a <;> simp [Addr.add]
  simp [execOp, hx, hy, hu, Instr.sliceAt, Instr.slice, run_underlying hS.und, Instr.sliceBounds, Instr.sliceBound, asIntOf, sizeOf, typeInfo, hi1, hj, hq, e2]
theorem x_mkFunc {P : Program} {n : Nat} {σ : Nat → Value} {w : World} {ty : TypeId} {f : Fn} {a b : Array Operand} {v : Value} (hrun : ∀ w, (Instr.makeFunc f (a.map (ev n σ)) (b.map (ev n σ))).run P w = .ok v w) : Ex P (ev n σ) w (.makeFunc f a b) ty v := by
  intro _ _ _ _; simp [execOp, hrun]
def clipV : Value → Value
  | .slice a m _ => .slice a m m
  | v => v
/-- the parts' lists, each in a block of its own, without room behind -/
structure PartsIn (h : Array Obj) (lo : Nat) (us : List Value) (P : List (List ByteArray)) : Prop where
  len : us.length = P.length
  row : ∀ i, i < P.length → 0 < (el P i).length ∧ (el P i).length ≤ maxLen ∧ ∃ b, el us i = .slice (some ⟨b, 0, none⟩) (el P i).length (el P i).length ∧ lo ≤ b ∧ ∃ R, Blk h b (flat enS (el P i) ++ R) 9
  apart : ∀ i j b, i < us.length → j < us.length → (el us i).ownBlock = some b → (el us j).ownBlock = some b → i = j
theorem nodup_inj {α : Type} {xs : List α} (h : xs.Nodup) {i j : Nat} (hi : i < xs.length) (hj : j < xs.length) (e : xs[i] = xs[j]) : i = j := by
  rcases Nat.lt_trichotomy i j with q | q | q
  · exact absurd e (List.pairwise_iff_getElem.1 h i j hi hj q)
  · exact q
  · exact absurd e.symm (List.pairwise_iff_getElem.1 h j i hj hi q)
theorem PartsIn.of {h : Array Obj} {lo lo2 : Nat} {vs : List Value} {rows : List (List ByteArray)} {em : List Nat} {m : Nat} (hf : Fam h lo2 9 enS vs rows) (hvl : vs.length = m) (hl : lo ≤ lo2) (hne : ∀ a, a < m → 0 < (el rows a).length) (hnd : em.Nodup) (hlt : ∀ x ∈ em, x < m) : PartsIn h lo (em.map fun k => clipV (el vs k)) (em.map fun k => el rows k) := by
  have hel : ∀ i, i < em.length → el (em.map fun k => clipV (el vs k)) i = clipV (el vs (el em i)) ∧ el (em.map fun k => el rows k) i = el rows (el em i) ∧ el em i < m := fun i hi => by
    refine ⟨by rw [el_eq (by simpa using hi), el_eq hi]; simp, by rw [el_eq (by simpa using hi), el_eq hi]; simp, hlt _ (by rw [el_eq hi]; exact List.getElem_mem _)⟩
  have hform : ∀ a, a < m → ∃ b c, el vs a = .slice (some ⟨b, 0, none⟩) (el rows a).length c ∧ lo ≤ b ∧ ∃ R, Blk h b (flat enS (el rows a) ++ R) 9 := fun a ha => by
    have ho := hf.own a (by omega)
    obtain ⟨b, c, e, _, hO⟩ := ho.ob (fun e => by
      have := hne a ha
      rw [e] at ho
      have := ho.src.capl; omega)
    obtain ⟨R, hB, _⟩ := hO.blk
    exact ⟨b, c, e, Nat.le_trans hl hO.lo, R, hB⟩
  refine ⟨by simp, fun i hi => ?_, fun i j b hi hj h1 h2 => ?_⟩
  · rw [List.length_map] at hi
    obtain ⟨e1, e2, e3⟩ := hel i hi
    rw [e1, e2]
    obtain ⟨b, c, e, h1, h2⟩ := hform _ e3
    have hcp := (hf.own _ (by omega : el em i < vs.length)).src
    rw [e] at hcp
    exact ⟨hne _ e3, by have := hcp.capl; unfold maxLen; omega, b, by rw [e]; rfl, h1, h2⟩
  · rw [List.length_map] at hi hj
    obtain ⟨e1, _, e3⟩ := hel i hi
    obtain ⟨f1, _, f3⟩ := hel j hj
    rw [e1] at h1; rw [f1] at h2
    obtain ⟨b1, c1, g1, _⟩ := hform _ e3
    obtain ⟨b2, c2, g2, _⟩ := hform _ f3
    have q1 : (el vs (el em i)).ownBlock = some b := by rw [g1] at h1 ⊢; exact h1
    have q2 : (el vs (el em j)).ownBlock = some b := by rw [g2] at h2 ⊢; exact h2
    have := hf.apart _ _ b (by omega) (by omega) q1 q2
    rw [el_eq hi, el_eq hj] at this
    exact nodup_inj hnd hi hj this
/-- the members, where the queue's order looks at them -/
def JP (pb bo L0 m : Nat) (vs : List Value) (rows : List (List ByteArray)) (w : World) : Prop := Blk w.heap pb [.slice (some ⟨bo, 0, none⟩) m m] 26 ∧ OB w.heap L0 22 1 bo m (flat enV vs) ∧ Fam w.heap bo 9 enS vs rows
set_option maxHeartbeats 4000000 in
theorem clip42 (a : Option Addr) (l c : Nat) (hlc : l ≤ c) (hc : c ≤ 9223372036854775807) (w0 : World) : Calls Try.prog 42 #[.slice a l c] w0 fun e w' => e = .returned (.slice a l l) ∧ w0 = w' := by
  refine enter Try.func42 rfl 9 Try.ntmps42 rfl ?_
  refine seqK fun Q1 kn2 kr3 ke4 => ?_
  refine region ?_
  refine st_q (v := .slice none 0 0) (x_assign rfl) ?_
  refine st_nil ?_
  refine kn2 _ _ ?_
  refine seqK fun Q5 kn6 kr7 ke8 => ?_
  refine region ?_
  refine st_q (v := .slice a l c) (x_move rfl) ?_
  refine st_q (v := .slice a l c) (x_move rfl) ?_
  refine st_q (v := .int .i64 ((l : Nat) : Int)) (x_lenSl rfl Try.underlying22 rfl) ?_
  refine st_q (v := .slice a l c) (x_move rfl) ?_
  refine st_q (v := .int .i64 ((l : Nat) : Int)) (x_lenSl rfl Try.underlying22 rfl) ?_
  refine st_q (v := .slice a l l) (x_sliceHM T.sl22 rfl rfl rfl (by omega) (by omega)) ?_
  refine st_q (v := .slice a l l) (x_assign rfl) ?_
  refine st_nil ?_
  refine kn6 _ _ ?_
  refine ret ?_
  refine leave1 (P := Try.prog) (fn := Try.f42) (t := 2) (v := .slice a l l) rfl rfl ?_
  exact ⟨rfl, rfl⟩

set_option maxHeartbeats 4000000 in
theorem clo38 (pb bo L0 m x y : Nat) (vs : List Value) (rows : List (List ByteArray)) (w0 : World) (hvl : vs.length = m) (hx : x < m) (hy : y < m) (hrl : rows.length = m) (hrx : 0 < (el rows x).length) (hry : 0 < (el rows y).length) (hJ : JP pb bo L0 m vs rows w0) : Calls Try.prog 38 #[.int .i64 ((x : Nat) : Int), .int .i64 ((y : Nat) : Int), .pointer (some ⟨pb, 0, none⟩)] w0 fun e w' => e = .returned (.int .i64 (txt (el (el rows x) 0) (el (el rows y) 0))) ∧ Ext w0 w' := by
  have hE0 : Below w0.heap.size w0 w0 := Below.refl _ _
  have hz0 := hE0.le
  obtain ⟨hB, hOb, hF⟩ := hJ
  have hl1 := hOb.lo
  have hl2 := hOb.lt
  refine enter Try.func38 rfl 19 Try.ntmps38 rfl ?_
  refine seqK fun Q3 kn4 kr5 ke6 => ?_
  refine region ?_
  refine st_q (v := .int .i64 ((0 : Nat) : Int)) (x_assign rfl) ?_
  refine st_nil ?_
  refine kn4 _ _ ?_
  refine seqK fun Q7 kn8 kr9 ke10 => ?_
  refine regionD1 [0, 3, 5, 6, 9, 11] [0, 1, 2, 3, 4, 5, 6, 7, 8, 9, 10, 11, 13] (.one 0 (.one 1 (.one 2 (.one 3 (.one 4 (.one 5 (.one 6 (.one 7 (.one 8 (.one 9 (.one 10 (.one 11 (.one 12 (.one 13 .done)))))))))))))) (by kernel_rfl) (by kernel_rfl) ?_
  intro w11 hx12 hs13
  have hB14 := hB.ext hx12
  have hF15 := hOb.ext hx12
  have hF16 := Fam.ext hF hx12
  have hE17 : Below w0.heap.size w0 w11 := hx12.e hE0 (Nat.le_refl _)
  have hz18 := hE17.le
  have hs19 := hx12.size
  have hS20 : Ext w11 w11 := Below.refl _ _
  refine d_l (v := .slice ((some ⟨bo, 0, none⟩)) m m) rfl rfl rfl (fun v22 hw21 => x_load1 T.na26 rfl ((hB14.one 0 rfl).ext hw21)) ?_
  refine d_q (v := .int .i64 ((x : Nat) : Int)) rfl rfl (fun _ => x_move rfl) ?_
  refine d_q (v := .pointer (some ⟨bo, 0 + x * 1, none⟩)) rfl rfl (fun _ => x_index T.sl26 rfl rfl (by omega)) ?_
  have hr28 := hF16.own x (by have := hF16.len; omega)
  obtain ⟨q25, c26, e27, _, _⟩ := hr28.src.form
  rw [e27] at hr28
  refine d_l (v := .slice q25 ((el rows x).length) c26) rfl rfl rfl (fun v24 hw23 => x_load1 T.na22 rfl (Cells.conv ((hF15.cells.elem enV_len (i := x) (by omega)).ext hw23) e27)) ?_
  obtain ⟨b29, o30, ha31, hc32⟩ := hr28.src.at (by omega)
  refine d_q (v := .pointer (some ⟨b29, o30 + 0 * 1, none⟩)) rfl rfl (fun _ => x_index' T.sl22 rfl ha31 rfl (by omega)) ?_
  refine d_l (v := .string (el (el rows x) 0)) rfl rfl rfl (fun v34 hw33 => x_load1 T.na9 rfl ((hc32.elem enS_len (i := 0) (by omega)).ext hw33)) ?_
  refine d_l (v := .slice ((some ⟨bo, 0, none⟩)) m m) rfl rfl rfl (fun v36 hw35 => x_load1 T.na26 rfl ((hB14.one 0 rfl).ext hw35)) ?_
  refine d_q (v := .int .i64 ((y : Nat) : Int)) rfl rfl (fun _ => x_move rfl) ?_
  refine d_q (v := .pointer (some ⟨bo, 0 + y * 1, none⟩)) rfl rfl (fun _ => x_index T.sl26 rfl rfl (by omega)) ?_
  have hr42 := hF16.own y (by have := hF16.len; omega)
  obtain ⟨q39, c40, e41, _, _⟩ := hr42.src.form
  rw [e41] at hr42
  refine d_l (v := .slice q39 ((el rows y).length) c40) rfl rfl rfl (fun v38 hw37 => x_load1 T.na22 rfl (Cells.conv ((hF15.cells.elem enV_len (i := y) (by omega)).ext hw37) e41)) ?_
  obtain ⟨b43, o44, ha45, hc46⟩ := hr42.src.at (by omega)
  refine d_q (v := .pointer (some ⟨b43, o44 + 0 * 1, none⟩)) rfl rfl (fun _ => x_index' T.sl22 rfl ha45 rfl (by omega)) ?_
  refine d_l (v := .string (el (el rows y) 0)) rfl rfl rfl (fun v48 hw47 => x_load1 T.na9 rfl ((hc46.elem enS_len (i := 0) (by omega)).ext hw47)) ?_
  refine d_e (by decide) (d_c' rfl rfl (t_call [.string (el (el rows x) 0), .string (el (el rows y) 0)] T.cf39 rfl rfl) (texts39 (el (el rows x) 0) (el (el rows y) 0) _) ?_)
  rintro _ w49 ⟨rfl, hx50⟩
  refine ⟨_, rfl, ?_⟩
  have hB51 := hB14.ext hx50
  have hF52 := hF15.ext hx50
  have hF53 := Fam.ext hF16 hx50
  have hF54 := hr28.ext hx50
  have hF55 := hc32.ext hx50
  have hF56 := hr42.ext hx50
  have hF57 := hc46.ext hx50
  have hE58 : Below w0.heap.size w0 w49 := hx50.e hE17 (Nat.le_refl _)
  have hz59 := hE58.le
  have hs60 := hx50.size
  have hS61 := hS20.trans (hx50.mono hS20.size)
  refine ⟨fun _ => hS61, ?_⟩
  refine d_q (v := .int .i64 ((txt (el (el rows x) 0) (el (el rows y) 0)))) rfl rfl (fun _ => x_assign rfl) ?_
  refine d_done ?_
  refine kn8 _ _ ?_
  refine ret ?_
  refine leave1 (P := Try.prog) (fn := Try.f38) (t := 5) (v := .int .i64 ((txt (el (el rows x) 0) (el (el rows y) 0)))) rfl rfl ?_
  exact ⟨rfl, hE58⟩

theorem JP.cmpr {ns : List ByteArray} {es : List Edge} {Pn : List Nat} {m : Nat} (hK : Kn ns es Pn m) {pb bo L0 : Nat} {vs : List Value} (hvl : vs.length = m) : Cmpr (JP pb bo L0 m vs (mem_ ns Pn m)) (.pointer (some ⟨pb, 0, none⟩)) m (cmpM ns Pn m) :=
  ⟨fun _ _ ⟨h1, h2, h3⟩ hx => ⟨h1.ext hx, h2.ext hx, h3.ext hx⟩, fun _ _ _ _ ⟨h1, h2, h3⟩ hg hr hk => by rcases hk with rfl | rfl <;> exact ⟨h1.gk hg hr (by decide), h2.gk hg hr (by decide), h3.gk hg hr (by decide)⟩,
   fun x y w hx hy hJ => clo38 pb bo L0 m x y vs (mem_ ns Pn m) w hvl hx hy (mem_len _ _ _) (hK.memne hx) (hK.memne hy) hJ⟩
end Go.Proofs.Ytknfjgbipfpnjaa
