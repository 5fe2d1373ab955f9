import Derived.Test.YtknfjgbipfpnjaaG9
import Derived.Test.YtknfjgbipfpnjaaGS
import Derived.Test.YtknfjgbipfpnjaaGT2
namespace Go.Proofs.Ytknfjgbipfpnjaa
open Go.RowKit Go.Eng Go.OrdPure
open Go.Knot
theorem T.sz3 : SZ Try.prog 3 1 := fun _ => by kernel_rfl

def outN (ns : List ByteArray) (es : List Edge) (u : Nat) : List Nat := (rowS ns es u).map (tgt ns es)
theorem outN_len (ns : List ByteArray) (es : List Edge) (u : Nat) : (outN ns es u).length = (rowS ns es u).length := by simp [outN]
theorem outN_el {ns : List ByteArray} {es : List Edge} {u i : Nat} (h : i < (rowS ns es u).length) : el (outN ns es u) i = ixS ns (el es (el (rowS ns es u) i)).2.1 := by
  rw [el_eq (by rw [outN_len]; exact h), el_eq (xs := rowS ns es u) h]; simp [outN, tgt]
theorem outN_mem {ns : List ByteArray} {es : List Edge} {u t : Nat} : t ∈ outN ns es u ↔ ∃ k, k < es.length ∧ ixS ns (el es k).1 = u ∧ tgt ns es k = t := by
  unfold outN rowS
  rw [List.mem_map]
  exact ⟨fun ⟨k, h1, h2⟩ => ⟨k, (mem_rowU.1 h1).1, (mem_rowU.1 h1).2, h2⟩, fun ⟨k, h1, h2, h3⟩ => ⟨k, mem_rowU.2 ⟨h1, h2⟩, h3⟩⟩
theorem outN_lt {ns : List ByteArray} {es : List Edge} (hends : ∀ k, k < es.length → (el es k).1 ∈ ns ∧ (el es k).2.1 ∈ ns) : ∀ u, u < ns.length → ∀ t, t ∈ outN ns es u → t < ns.length := by
  intro u _ t ht
  obtain ⟨k, hk, _, rfl⟩ := outN_mem.1 ht
  exact ixS_lt (hends k hk).2
theorem Where.apart {w w' : World} {sv v' ov : Value} {lo k m : Nat} {T : TypeId} {cs : List Value} (hW : Where w w' sv v') (hne : ∀ b, sv.ownBlock = some b → ov.ownBlock ≠ some b) (ho : Own w.heap lo T k ov m cs) : ∀ b, v'.ownBlock = some b → ov.ownBlock ≠ some b := by
  intro b hb hb2
  rcases hW with h | ⟨_, h⟩
  · exact hne b (h ▸ hb) hb2
  · have := h b hb
    have := (ho.lt hb2).2
    omega
theorem ob_len {a : Option Addr} {m m' c : Nat} : (Value.slice a m c).ownBlock = (Value.slice a m' c).ownBlock := by cases a <;> rfl
theorem el_takeN {α : Type} [Inhabited α] {xs : List α} {j i : Nat} (h : i < j) : el (xs.take j) i = el xs i := by simp [el, List.getD_eq_getElem?_getD, List.getElem?_take, h]
theorem enI_enN {P : List Int} (h : ∀ x ∈ P, 0 ≤ x) : flat enI P = flat enN (P.map Int.toNat) := by
  induction P with
  | nil => rfl
  | cons x P ih =>
    have h1 := ih fun y hy => h y (List.mem_cons_of_mem _ hy)
    have h2 : ((x.toNat : Nat) : Int) = x := Int.toNat_of_nonneg (h x (by simp))
    simp only [flat, List.map_cons, List.flatMap_cons] at *
    rw [h1]; simp only [enI, enN, h2]
section
variable {n : Nat} {out : Nat → List Nat} {P : List Int} {Lo Se Nx W O : List Nat} {cnt pts : Nat} {rt : Int} {v : Nat}
theorem LIwt (h : LI 2 n out P Lo Se Nx W O cnt pts rt v) {j : Nat} (hj : j < W.length - 1) : el (W.take (W.length - 1)) j < n := by
  rw [el_takeN hj]
  exact h.2.1.ki.wlt (by rw [el_eq (by omega)]; exact List.getElem_mem _)
theorem LIot (h : LI 2 n out P Lo Se Nx W O cnt pts rt v) {m : Nat} (hm : 0 < m) (hmO : m ≤ O.length) : el (O.take m) (m - 1) < n := by
  rw [el_takeN (by omega)]
  exact h.2.1.ki.olt (by rw [el_eq (by omega)]; exact List.getElem_mem _)
theorem LInext {u m : Nat} {P' : List Int} (h : LI 2 n out P Lo Se Nx W O cnt pts rt v) (hp : Pops n P O pts u m P') (hm : 0 < m) (hne : ¬ el (O.take m) (m - 1) = u) : Pops n P O pts u (m - 1) (P'.set (el (O.take m) (m - 1)) (pts : Int)) := by
  rw [el_takeN (by omega)] at hne ⊢
  exact hp.next hm (fun z hz => h.2.1.ki.olt hz) hne
theorem LIclose {u m : Nat} {P' : List Int} (hu : u = el W (W.length - 1)) (hout : ∀ u, u < n → ∀ t, t ∈ out u → t < n) (h : LI 2 n out P Lo Se Nx W O cnt pts rt v) (hi : ¬ el Nx u < (out u).length) (he : el Lo u = el Se u)
    (hp : Pops n P O pts u m P') (hm : 0 < m) (hz : el (O.take m) (m - 1) = u) : LW n out (P'.set (el (O.take m) (m - 1)) (pts : Int)) Lo Se Nx (W.take (W.length - 1)) (O.take (m - 1)) cnt (pts + 1) rt (el Lo u) := by
  rw [el_takeN (by omega)] at hz ⊢
  exact h.close hu hout hi he hp hm hz
end
theorem x_addE {P : Program} {n : Nat} {σ : Nat → Value} {w : World} {ty t t' : TypeId} {x y : Operand} {a b c : Int} (hx : ev n σ x = .int .i64 a) (hy : ev n σ y = .int .i64 b) (h : -9223372036854775808 ≤ a + b ∧ a + b ≤ 9223372036854775807) (e : a + b = c) : Ex P (ev n σ) w (.binOp .add t x y t') ty (.int .i64 c) := e ▸ x_add hx hy h
theorem Knotted.nat {n : Nat} {out : Nat → List Nat} {P : List Int} {pts : Nat} (hl : P.length = n) (hout : ∀ u, u < n → ∀ t, t ∈ out u → t < n) (h : Knotted n out (el P) pts) : Knotted n out (fun u => ((el (P.map Int.toNat) u : Nat) : Int)) pts := by
  have e : ∀ u, u < n → ((el (P.map Int.toNat) u : Nat) : Int) = el P u := fun u hu => by
    have h1 : el (P.map Int.toNat) u = (el P u).toNat := by rw [el_eq (xs := P.map _) (by rw [List.length_map]; omega), el_eq (xs := P) (by omega)]; simp
    rw [h1, Int.toNat_of_nonneg (h.pos u hu).1]
  refine ⟨fun u hu => ?_, fun u hu t ht => ?_, fun u v hu hv => ?_, fun k hk => ?_⟩
  · show 0 ≤ ((el (P.map Int.toNat) u : Nat) : Int) ∧ _
    rw [e u hu]; exact h.pos u hu
  · show ((el (P.map Int.toNat) t : Nat) : Int) ≤ ((el (P.map Int.toNat) u : Nat) : Int)
    rw [e u hu, e t (hout u hu t ht)]; exact h.edge u hu t ht
  · show ((el (P.map Int.toNat) u : Nat) : Int) = ((el (P.map Int.toNat) v : Nat) : Int) ↔ _
    rw [e u hu, e v hv]; exact h.scc u v hu hv
  · obtain ⟨u, hu, he⟩ := h.use k hk
    exact ⟨u, hu, (e u hu).trans he⟩
set_option maxHeartbeats 4000000 in
theorem knot36 (ns : List ByteArray) (es : List Edge) (g : Nat) (D : NetD) (va : Value) (w0 : World) (hN : Net w0 g D ns es) (ha : Src w0.heap va es.length 3 (flat enE es)) : Calls Try.prog 36 #[.pointer (some ⟨g, 0, none⟩), va] w0 fun e w' => ∃ v Pn pts, e = .returned (.tuple #[v, .int .i64 ((pts : Nat) : Int)]) ∧ Ext w0 w' ∧ Pn.length = ns.length ∧ Knotted ns.length (outN ns es) (fun u => ((el Pn u : Nat) : Int)) pts ∧ pts ≤ ns.length ∧ Own w'.heap w0.heap.size 3 1 v ns.length (flat enN Pn) := by
  have hE0 : Below w0.heap.size w0 w0 := Below.refl _ _
  have hz0 := hE0.le
  obtain ⟨a, ca, rfl, hca, hca1⟩ := ha.form
  have hfit := hN.fit
  have hends := hN.ends
  have hvlen := hN.vlen
  refine enter Try.func36 rfl 202 Try.ntmps36 rfl ?_
  refine seqK fun Q1 kn2 kr3 ke4 => ?_
  refine region ?_
  refine st_q (v := .slice none 0 0) (x_assign rfl) ?_
  refine st_q (v := .int .i64 ((0 : Nat) : Int)) (x_assign rfl) ?_
  refine st_nil ?_
  refine kn2 _ _ ?_
  refine scope3 (n := 202) (ds := []) (α := Nat × Nat × Nat × Nat × Nat × (List Int) × (List Nat) × (List Nat) × (List Nat) × (List Nat) × (List Nat) × Nat × Nat × Int × Nat × Value × Value) (fun x => [(0, .pointer (some ⟨g, 0, none⟩)), (1, .slice a es.length ca), (6, .int .i64 ((ns.length : Nat) : Int)), (7, .slice ((some ⟨x.1, 0, none⟩)) ns.length ns.length), (8, .slice ((some ⟨x.2.1, 0, none⟩)) ns.length ns.length), (9, .slice ((some ⟨x.2.2.1, 0, none⟩)) ns.length ns.length), (10, .slice ((some ⟨x.2.2.2.1, 0, none⟩)) ns.length ns.length), (11, x.2.2.2.2.2.2.2.2.2.2.2.2.2.2.2.1), (12, x.2.2.2.2.2.2.2.2.2.2.2.2.2.2.2.2), (13, .int .i64 ((x.2.2.2.2.2.2.2.2.2.2.2.1 : Nat) : Int)), (14, .int .i64 ((x.2.2.2.2.2.2.2.2.2.2.2.2.1 : Nat) : Int)), (15, .int .i64 x.2.2.2.2.2.2.2.2.2.2.2.2.2.1), (16, .int .i64 ((x.2.2.2.2.2.2.2.2.2.2.2.2.2.2.1 : Nat) : Int))]) (fun lb x w5 => Below w0.heap.size w0 w5 ∧ w0.heap.size ≤ x.1 ∧ x.1 < x.2.2.2.2.1 ∧ w0.heap.size ≤ x.2.1 ∧ x.2.1 < x.2.2.2.2.1 ∧ w0.heap.size ≤ x.2.2.1 ∧ x.2.2.1 < x.2.2.2.2.1 ∧ w0.heap.size ≤ x.2.2.2.1 ∧ x.2.2.2.1 < x.2.2.2.2.1 ∧ x.1 ≠ x.2.1 ∧ x.1 ≠ x.2.2.1 ∧ x.1 ≠ x.2.2.2.1 ∧ x.2.1 ≠ x.2.2.1 ∧ x.2.1 ≠ x.2.2.2.1 ∧ x.2.2.1 ≠ x.2.2.2.1 ∧ x.2.2.2.2.1 ≤ w5.heap.size ∧ OB w5.heap w0.heap.size 3 1 x.1 ns.length (flat enI x.2.2.2.2.2.1) ∧ OB w5.heap w0.heap.size 3 1 x.2.1 ns.length (flat enN x.2.2.2.2.2.2.1) ∧ OB w5.heap w0.heap.size 3 1 x.2.2.1 ns.length (flat enN x.2.2.2.2.2.2.2.1) ∧ OB w5.heap w0.heap.size 3 1 x.2.2.2.1 ns.length (flat enN x.2.2.2.2.2.2.2.2.1) ∧ Own w5.heap x.2.2.2.2.1 3 1 x.2.2.2.2.2.2.2.2.2.2.2.2.2.2.2.1 x.2.2.2.2.2.2.2.2.2.1.length (flat enN x.2.2.2.2.2.2.2.2.2.1) ∧ Own w5.heap x.2.2.2.2.1 3 1 x.2.2.2.2.2.2.2.2.2.2.2.2.2.2.2.2 x.2.2.2.2.2.2.2.2.2.2.1.length (flat enN x.2.2.2.2.2.2.2.2.2.2.1) ∧ (∀ b, x.2.2.2.2.2.2.2.2.2.2.2.2.2.2.2.1.ownBlock = some b → x.2.2.2.2.2.2.2.2.2.2.2.2.2.2.2.2.ownBlock ≠ some b) ∧ LI lb ns.length (outN ns es) x.2.2.2.2.2.1 x.2.2.2.2.2.2.1 x.2.2.2.2.2.2.2.1 x.2.2.2.2.2.2.2.2.1 x.2.2.2.2.2.2.2.2.2.1 x.2.2.2.2.2.2.2.2.2.2.1 x.2.2.2.2.2.2.2.2.2.2.2.1 x.2.2.2.2.2.2.2.2.2.2.2.2.1 x.2.2.2.2.2.2.2.2.2.2.2.2.2.1 x.2.2.2.2.2.2.2.2.2.2.2.2.2.2.1) (fun x => mu ns.length (EE ns.length (outN ns es)) x.2.2.2.2.2.2.2.1 x.2.2.2.2.2.2.2.2.1 x.2.2.2.2.2.2.2.2.2.1 x.2.2.2.2.2.2.2.2.2.2.2.2.2.1) (by kernel_rfl) (by kernel_rfl) (by kernel_rfl) ?_ ?_ ?_ ?_
  ·
    intro Z6 Q7 kn8 kr9 ke10
    refine seqK fun Q11 kn12 kr13 ke14 => ?_
    refine region ?_
    refine st_q (v := .pointer (some ⟨g, 0, none⟩)) (x_move rfl) ?_
    refine st_q (v := .pointer (some ⟨g, 0, none⟩)) (x_nilCheck rfl) ?_
    refine st_q (v := .pointer (some ⟨g, 0, none⟩)) (x_field (o := 0) T.fa65_0 rfl) ?_
    refine st_q (v := .slice D.na ns.length D.nc) (x_load1 T.na22 rfl ((hN.blk.keep (hE0.block _ hN.blk.lt)).one 0 rfl)) ?_
    refine st_q (v := .int .i64 ((ns.length : Nat) : Int)) (x_lenSl rfl Try.underlying22 rfl) ?_
    refine st_q (v := .int .i64 ((ns.length : Nat) : Int)) (x_assign rfl) ?_
    refine st_nil ?_
    refine kn12 _ _ ?_
    refine seqLK (n := 202) (ds := []) (α := Nat × Nat × Nat × Nat) (fun x => [(0, .pointer (some ⟨g, 0, none⟩)), (1, .slice a es.length ca), (6, .int .i64 ((ns.length : Nat) : Int)), (7, .slice ((some ⟨x.1, 0, none⟩)) ns.length ns.length), (8, .slice ((some ⟨x.2.1, 0, none⟩)) ns.length ns.length), (9, .slice ((some ⟨x.2.2.1, 0, none⟩)) ns.length ns.length), (10, .slice ((some ⟨x.2.2.2, 0, none⟩)) ns.length ns.length)]) (fun x w15 => Ext w0 w15 ∧ w0.heap.size ≤ x.1 ∧ x.1 < w15.heap.size ∧ w0.heap.size ≤ x.2.1 ∧ x.2.1 < w15.heap.size ∧ w0.heap.size ≤ x.2.2.1 ∧ x.2.2.1 < w15.heap.size ∧ w0.heap.size ≤ x.2.2.2 ∧ x.2.2.2 < w15.heap.size ∧ x.1 ≠ x.2.1 ∧ x.1 ≠ x.2.2.1 ∧ x.1 ≠ x.2.2.2 ∧ x.2.1 ≠ x.2.2.1 ∧ x.2.1 ≠ x.2.2.2 ∧ x.2.2.1 ≠ x.2.2.2 ∧ OB w15.heap w0.heap.size 3 1 x.1 ns.length (flat enI (List.replicate ns.length (0 : Int))) ∧ OB w15.heap w0.heap.size 3 1 x.2.1 ns.length (flat enN (List.replicate ns.length (0 : Nat))) ∧ OB w15.heap w0.heap.size 3 1 x.2.2.1 ns.length (flat enN (List.replicate ns.length (0 : Nat))) ∧ OB w15.heap w0.heap.size 3 1 x.2.2.2 ns.length (flat enN (List.replicate ns.length (0 : Nat)))) ?_ ?_
    ·
      have hx16 : Ext w0 w0 := Below.refl _ _
      intro Q17 kn18 kr19 ke20
      refine regionD1 [] [0, 2, 4, 6, 8, 9, 10, 11] (.one 0 (.one 2 (.one 4 (.one 6 (.four 1 (.one 8 (.three 3 (.one 9 (.two 5 (.one 10 (.one 7 (.one 11 .done))) 7 (.one 5 (.one 10 (.one 11 .done))))) 5 (.two 3 (.one 9 (.one 10 (.one 7 (.one 11 .done)))) 7 (.one 3 (.one 9 (.one 10 (.one 11 .done))))) 7 (.two 3 (.one 9 (.one 5 (.one 10 (.one 11 .done)))) 5 (.one 3 (.one 9 (.one 10 (.one 11 .done))))))) 3 (.three 1 (.one 8 (.one 9 (.two 5 (.one 10 (.one 7 (.one 11 .done))) 7 (.one 5 (.one 10 (.one 11 .done)))))) 5 (.two 1 (.one 8 (.one 9 (.one 10 (.one 7 (.one 11 .done))))) 7 (.one 1 (.one 8 (.one 9 (.one 10 (.one 11 .done)))))) 7 (.two 1 (.one 8 (.one 9 (.one 5 (.one 10 (.one 11 .done))))) 5 (.one 1 (.one 8 (.one 9 (.one 10 (.one 11 .done))))))) 5 (.three 1 (.one 8 (.two 3 (.one 9 (.one 10 (.one 7 (.one 11 .done)))) 7 (.one 3 (.one 9 (.one 10 (.one 11 .done)))))) 3 (.two 1 (.one 8 (.one 9 (.one 10 (.one 7 (.one 11 .done))))) 7 (.one 1 (.one 8 (.one 9 (.one 10 (.one 11 .done)))))) 7 (.two 1 (.one 8 (.one 3 (.one 9 (.one 10 (.one 11 .done))))) 3 (.one 1 (.one 8 (.one 9 (.one 10 (.one 11 .done))))))) 7 (.three 1 (.one 8 (.two 3 (.one 9 (.one 5 (.one 10 (.one 11 .done)))) 5 (.one 3 (.one 9 (.one 10 (.one 11 .done)))))) 3 (.two 1 (.one 8 (.one 9 (.one 5 (.one 10 (.one 11 .done))))) 5 (.one 1 (.one 8 (.one 9 (.one 10 (.one 11 .done)))))) 5 (.two 1 (.one 8 (.one 3 (.one 9 (.one 10 (.one 11 .done))))) 3 (.one 1 (.one 8 (.one 9 (.one 10 (.one 11 .done)))))))))))) (by kernel_rfl) (by kernel_rfl) ?_
      intro w21 hx22 hs23
      have hF24 := hx22.e hx16 (Nat.le_refl _)
      have hE25 : Below w0.heap.size w0 w21 := hx22.e hE0 (Nat.le_refl _)
      have hz26 := hE25.le
      have hs27 := hx22.size
      have hS28 : Ext w21 w21 := Below.refl _ _
      refine d_q (v := .int .i64 ((ns.length : Nat) : Int)) rfl rfl (fun _ => x_move rfl) ?_
      refine d_q (v := .int .i64 ((ns.length : Nat) : Int)) rfl rfl (fun _ => x_move rfl) ?_
      refine d_q (v := .int .i64 ((ns.length : Nat) : Int)) rfl rfl (fun _ => x_move rfl) ?_
      refine d_q (v := .int .i64 ((ns.length : Nat) : Int)) rfl rfl (fun _ => x_move rfl) ?_
      refine d_four ?_ ?_ ?_ ?_
      ·
        refine id (d_e' rfl rfl (e_makeSlice T.sl38 rfl rfl (by omega) (by omega) ?_))
        intro w29 hA30
        have hx31 := hA30.ext
        have hs33 := hA30.size
        have hA30x : Al w21 w29 (.cells (flat enI (List.replicate ns.length (0 : Int))).toArray 3) := by rw [flat_repI]; exact hA30
        have hO32 := OB.new (lo := w0.heap.size) (k := 1) (c := ns.length) hA30x (by omega) (by rw [flat_length enI_len]; simp) (by omega)
        have hF34 := hx31.e hF24 (Nat.le_refl _)
        have hE35 : Below w0.heap.size w0 w29 := hx31.e hE25 (Nat.le_refl _)
        have hz36 := hE35.le
        have hs37 := hx31.size
        have hS38 := hS28.trans (hx31.mono hS28.size)
        refine ⟨fun _ => hS38, ?_⟩
        have hl39 := hO32.lo
        have hl40 := hO32.lt
        refine d_q (v := .slice ((some ⟨w21.heap.size, 0, none⟩)) ns.length ns.length) rfl rfl (fun _ => x_assign rfl) ?_
        refine d_three ?_ ?_ ?_
        ·
          refine id (d_e' rfl rfl (e_makeSlice T.sl38 rfl rfl (by omega) (by omega) ?_))
          intro w41 hA42
          have hx43 := hA42.ext
          have hs45 := hA42.size
          have hA42x : Al w29 w41 (.cells (flat enN (List.replicate ns.length (0 : Nat))).toArray 3) := by rw [flat_repN]; exact hA42
          have hO44 := OB.new (lo := w0.heap.size) (k := 1) (c := ns.length) hA42x (by omega) (by rw [flat_length enN_len]; simp) (by omega)
          have hF46 := hx43.e hF34 (Nat.le_refl _)
          have hF47 := hO32.ext hx43
          have hE48 : Below w0.heap.size w0 w41 := hx43.e hE35 (Nat.le_refl _)
          have hz49 := hE48.le
          have hs50 := hx43.size
          have hS51 := hS38.trans (hx43.mono hS38.size)
          refine ⟨fun _ => hS51, ?_⟩
          have hl52 := hO44.lo
          have hl53 := hO44.lt
          refine d_q (v := .slice ((some ⟨w29.heap.size, 0, none⟩)) ns.length ns.length) rfl rfl (fun _ => x_assign rfl) ?_
          refine d_two ?_ ?_
          ·
            refine id (d_e' rfl rfl (e_makeSlice T.sl38 rfl rfl (by omega) (by omega) ?_))
            intro w54 hA55
            have hx56 := hA55.ext
            have hs58 := hA55.size
            have hA55x : Al w41 w54 (.cells (flat enN (List.replicate ns.length (0 : Nat))).toArray 3) := by rw [flat_repN]; exact hA55
            have hO57 := OB.new (lo := w0.heap.size) (k := 1) (c := ns.length) hA55x (by omega) (by rw [flat_length enN_len]; simp) (by omega)
            have hF59 := hx56.e hF46 (Nat.le_refl _)
            have hF60 := hF47.ext hx56
            have hF61 := hO44.ext hx56
            have hE62 : Below w0.heap.size w0 w54 := hx56.e hE48 (Nat.le_refl _)
            have hz63 := hE62.le
            have hs64 := hx56.size
            have hS65 := hS51.trans (hx56.mono hS51.size)
            refine ⟨fun _ => hS65, ?_⟩
            have hl66 := hO57.lo
            have hl67 := hO57.lt
            refine d_q (v := .slice ((some ⟨w41.heap.size, 0, none⟩)) ns.length ns.length) rfl rfl (fun _ => x_assign rfl) ?_
            refine d_e (by decide) (d_e' rfl rfl (e_makeSlice T.sl38 rfl rfl (by omega) (by omega) ?_))
            intro w68 hA69
            have hx70 := hA69.ext
            have hs72 := hA69.size
            have hA69x : Al w54 w68 (.cells (flat enN (List.replicate ns.length (0 : Nat))).toArray 3) := by rw [flat_repN]; exact hA69
            have hO71 := OB.new (lo := w0.heap.size) (k := 1) (c := ns.length) hA69x (by omega) (by rw [flat_length enN_len]; simp) (by omega)
            have hF73 := hx70.e hF59 (Nat.le_refl _)
            have hF74 := hF60.ext hx70
            have hF75 := hF61.ext hx70
            have hF76 := hO57.ext hx70
            have hE77 : Below w0.heap.size w0 w68 := hx70.e hE62 (Nat.le_refl _)
            have hz78 := hE77.le
            have hs79 := hx70.size
            have hS80 := hS65.trans (hx70.mono hS65.size)
            refine ⟨fun _ => hS80, ?_⟩
            have hl81 := hO71.lo
            have hl82 := hO71.lt
            refine d_q (v := .slice ((some ⟨w54.heap.size, 0, none⟩)) ns.length ns.length) rfl rfl (fun _ => x_assign rfl) ?_
            refine d_done ?_
            refine kn18 _ (w21.heap.size, w29.heap.size, w41.heap.size, w54.heap.size) _ ⟨rfl, rfl, rfl, rfl, rfl, rfl, rfl, trivial⟩ ⟨hF73, ?_⟩
            try dsimp only
            exact ⟨by omega, by omega, by omega, by omega, by omega, by omega, by omega, by omega, by omega, by omega, by omega, by omega, by omega, by omega, hF74, hF75, hF76, hO71⟩
          ·
            refine id (d_e' rfl rfl (e_makeSlice T.sl38 rfl rfl (by omega) (by omega) ?_))
            intro w83 hA84
            have hx85 := hA84.ext
            have hs87 := hA84.size
            have hA84x : Al w41 w83 (.cells (flat enN (List.replicate ns.length (0 : Nat))).toArray 3) := by rw [flat_repN]; exact hA84
            have hO86 := OB.new (lo := w0.heap.size) (k := 1) (c := ns.length) hA84x (by omega) (by rw [flat_length enN_len]; simp) (by omega)
            have hF88 := hx85.e hF46 (Nat.le_refl _)
            have hF89 := hF47.ext hx85
            have hF90 := hO44.ext hx85
            have hE91 : Below w0.heap.size w0 w83 := hx85.e hE48 (Nat.le_refl _)
            have hz92 := hE91.le
            have hs93 := hx85.size
            have hS94 := hS51.trans (hx85.mono hS51.size)
            refine ⟨fun _ => hS94, ?_⟩
            have hl95 := hO86.lo
            have hl96 := hO86.lt
            refine d_e (by decide) (d_e' rfl rfl (e_makeSlice T.sl38 rfl rfl (by omega) (by omega) ?_))
            intro w97 hA98
            have hx99 := hA98.ext
            have hs101 := hA98.size
            have hA98x : Al w83 w97 (.cells (flat enN (List.replicate ns.length (0 : Nat))).toArray 3) := by rw [flat_repN]; exact hA98
            have hO100 := OB.new (lo := w0.heap.size) (k := 1) (c := ns.length) hA98x (by omega) (by rw [flat_length enN_len]; simp) (by omega)
            have hF102 := hx99.e hF88 (Nat.le_refl _)
            have hF103 := hF89.ext hx99
            have hF104 := hF90.ext hx99
            have hF105 := hO86.ext hx99
            have hE106 : Below w0.heap.size w0 w97 := hx99.e hE91 (Nat.le_refl _)
            have hz107 := hE106.le
            have hs108 := hx99.size
            have hS109 := hS94.trans (hx99.mono hS94.size)
            refine ⟨fun _ => hS109, ?_⟩
            have hl110 := hO100.lo
            have hl111 := hO100.lt
            refine d_q (v := .slice ((some ⟨w83.heap.size, 0, none⟩)) ns.length ns.length) rfl rfl (fun _ => x_assign rfl) ?_
            refine d_q (v := .slice ((some ⟨w41.heap.size, 0, none⟩)) ns.length ns.length) rfl rfl (fun _ => x_assign rfl) ?_
            refine d_done ?_
            refine kn18 _ (w21.heap.size, w29.heap.size, w83.heap.size, w41.heap.size) _ ⟨rfl, rfl, rfl, rfl, rfl, rfl, rfl, trivial⟩ ⟨hF102, ?_⟩
            try dsimp only
            exact ⟨by omega, by omega, by omega, by omega, by omega, by omega, by omega, by omega, by omega, by omega, by omega, by omega, by omega, by omega, hF103, hF104, hO100, hF105⟩
        ·
          refine id (d_e' rfl rfl (e_makeSlice T.sl38 rfl rfl (by omega) (by omega) ?_))
          intro w112 hA113
          have hx114 := hA113.ext
          have hs116 := hA113.size
          have hA113x : Al w29 w112 (.cells (flat enN (List.replicate ns.length (0 : Nat))).toArray 3) := by rw [flat_repN]; exact hA113
          have hO115 := OB.new (lo := w0.heap.size) (k := 1) (c := ns.length) hA113x (by omega) (by rw [flat_length enN_len]; simp) (by omega)
          have hF117 := hx114.e hF34 (Nat.le_refl _)
          have hF118 := hO32.ext hx114
          have hE119 : Below w0.heap.size w0 w112 := hx114.e hE35 (Nat.le_refl _)
          have hz120 := hE119.le
          have hs121 := hx114.size
          have hS122 := hS38.trans (hx114.mono hS38.size)
          refine ⟨fun _ => hS122, ?_⟩
          have hl123 := hO115.lo
          have hl124 := hO115.lt
          refine d_two ?_ ?_
          ·
            refine id (d_e' rfl rfl (e_makeSlice T.sl38 rfl rfl (by omega) (by omega) ?_))
            intro w125 hA126
            have hx127 := hA126.ext
            have hs129 := hA126.size
            have hA126x : Al w112 w125 (.cells (flat enN (List.replicate ns.length (0 : Nat))).toArray 3) := by rw [flat_repN]; exact hA126
            have hO128 := OB.new (lo := w0.heap.size) (k := 1) (c := ns.length) hA126x (by omega) (by rw [flat_length enN_len]; simp) (by omega)
            have hF130 := hx127.e hF117 (Nat.le_refl _)
            have hF131 := hF118.ext hx127
            have hF132 := hO115.ext hx127
            have hE133 : Below w0.heap.size w0 w125 := hx127.e hE119 (Nat.le_refl _)
            have hz134 := hE133.le
            have hs135 := hx127.size
            have hS136 := hS122.trans (hx127.mono hS122.size)
            refine ⟨fun _ => hS136, ?_⟩
            have hl137 := hO128.lo
            have hl138 := hO128.lt
            refine d_q (v := .slice ((some ⟨w112.heap.size, 0, none⟩)) ns.length ns.length) rfl rfl (fun _ => x_assign rfl) ?_
            refine d_q (v := .slice ((some ⟨w29.heap.size, 0, none⟩)) ns.length ns.length) rfl rfl (fun _ => x_assign rfl) ?_
            refine d_e (by decide) (d_e' rfl rfl (e_makeSlice T.sl38 rfl rfl (by omega) (by omega) ?_))
            intro w139 hA140
            have hx141 := hA140.ext
            have hs143 := hA140.size
            have hA140x : Al w125 w139 (.cells (flat enN (List.replicate ns.length (0 : Nat))).toArray 3) := by rw [flat_repN]; exact hA140
            have hO142 := OB.new (lo := w0.heap.size) (k := 1) (c := ns.length) hA140x (by omega) (by rw [flat_length enN_len]; simp) (by omega)
            have hF144 := hx141.e hF130 (Nat.le_refl _)
            have hF145 := hF131.ext hx141
            have hF146 := hF132.ext hx141
            have hF147 := hO128.ext hx141
            have hE148 : Below w0.heap.size w0 w139 := hx141.e hE133 (Nat.le_refl _)
            have hz149 := hE148.le
            have hs150 := hx141.size
            have hS151 := hS136.trans (hx141.mono hS136.size)
            refine ⟨fun _ => hS151, ?_⟩
            have hl152 := hO142.lo
            have hl153 := hO142.lt
            refine d_q (v := .slice ((some ⟨w125.heap.size, 0, none⟩)) ns.length ns.length) rfl rfl (fun _ => x_assign rfl) ?_
            refine d_done ?_
            refine kn18 _ (w21.heap.size, w112.heap.size, w29.heap.size, w125.heap.size) _ ⟨rfl, rfl, rfl, rfl, rfl, rfl, rfl, trivial⟩ ⟨hF144, ?_⟩
            try dsimp only
            exact ⟨by omega, by omega, by omega, by omega, by omega, by omega, by omega, by omega, by omega, by omega, by omega, by omega, by omega, by omega, hF145, hF147, hF146, hO142⟩
          ·
            refine id (d_e' rfl rfl (e_makeSlice T.sl38 rfl rfl (by omega) (by omega) ?_))
            intro w154 hA155
            have hx156 := hA155.ext
            have hs158 := hA155.size
            have hA155x : Al w112 w154 (.cells (flat enN (List.replicate ns.length (0 : Nat))).toArray 3) := by rw [flat_repN]; exact hA155
            have hO157 := OB.new (lo := w0.heap.size) (k := 1) (c := ns.length) hA155x (by omega) (by rw [flat_length enN_len]; simp) (by omega)
            have hF159 := hx156.e hF117 (Nat.le_refl _)
            have hF160 := hF118.ext hx156
            have hF161 := hO115.ext hx156
            have hE162 : Below w0.heap.size w0 w154 := hx156.e hE119 (Nat.le_refl _)
            have hz163 := hE162.le
            have hs164 := hx156.size
            have hS165 := hS122.trans (hx156.mono hS122.size)
            refine ⟨fun _ => hS165, ?_⟩
            have hl166 := hO157.lo
            have hl167 := hO157.lt
            refine d_e (by decide) (d_e' rfl rfl (e_makeSlice T.sl38 rfl rfl (by omega) (by omega) ?_))
            intro w168 hA169
            have hx170 := hA169.ext
            have hs172 := hA169.size
            have hA169x : Al w154 w168 (.cells (flat enN (List.replicate ns.length (0 : Nat))).toArray 3) := by rw [flat_repN]; exact hA169
            have hO171 := OB.new (lo := w0.heap.size) (k := 1) (c := ns.length) hA169x (by omega) (by rw [flat_length enN_len]; simp) (by omega)
            have hF173 := hx170.e hF159 (Nat.le_refl _)
            have hF174 := hF160.ext hx170
            have hF175 := hF161.ext hx170
            have hF176 := hO157.ext hx170
            have hE177 : Below w0.heap.size w0 w168 := hx170.e hE162 (Nat.le_refl _)
            have hz178 := hE177.le
            have hs179 := hx170.size
            have hS180 := hS165.trans (hx170.mono hS165.size)
            refine ⟨fun _ => hS180, ?_⟩
            have hl181 := hO171.lo
            have hl182 := hO171.lt
            refine d_q (v := .slice ((some ⟨w154.heap.size, 0, none⟩)) ns.length ns.length) rfl rfl (fun _ => x_assign rfl) ?_
            refine d_q (v := .slice ((some ⟨w29.heap.size, 0, none⟩)) ns.length ns.length) rfl rfl (fun _ => x_assign rfl) ?_
            refine d_q (v := .slice ((some ⟨w112.heap.size, 0, none⟩)) ns.length ns.length) rfl rfl (fun _ => x_assign rfl) ?_
            refine d_done ?_
            refine kn18 _ (w21.heap.size, w154.heap.size, w29.heap.size, w112.heap.size) _ ⟨rfl, rfl, rfl, rfl, rfl, rfl, rfl, trivial⟩ ⟨hF173, ?_⟩
            try dsimp only
            exact ⟨by omega, by omega, by omega, by omega, by omega, by omega, by omega, by omega, by omega, by omega, by omega, by omega, by omega, by omega, hF174, hO171, hF175, hF176⟩
        ·
          refine id (d_e' rfl rfl (e_makeSlice T.sl38 rfl rfl (by omega) (by omega) ?_))
          intro w183 hA184
          have hx185 := hA184.ext
          have hs187 := hA184.size
          have hA184x : Al w29 w183 (.cells (flat enN (List.replicate ns.length (0 : Nat))).toArray 3) := by rw [flat_repN]; exact hA184
          have hO186 := OB.new (lo := w0.heap.size) (k := 1) (c := ns.length) hA184x (by omega) (by rw [flat_length enN_len]; simp) (by omega)
          have hF188 := hx185.e hF34 (Nat.le_refl _)
          have hF189 := hO32.ext hx185
          have hE190 : Below w0.heap.size w0 w183 := hx185.e hE35 (Nat.le_refl _)
          have hz191 := hE190.le
          have hs192 := hx185.size
          have hS193 := hS38.trans (hx185.mono hS38.size)
          refine ⟨fun _ => hS193, ?_⟩
          have hl194 := hO186.lo
          have hl195 := hO186.lt
          refine d_two ?_ ?_
          ·
            refine id (d_e' rfl rfl (e_makeSlice T.sl38 rfl rfl (by omega) (by omega) ?_))
            intro w196 hA197
            have hx198 := hA197.ext
            have hs200 := hA197.size
            have hA197x : Al w183 w196 (.cells (flat enN (List.replicate ns.length (0 : Nat))).toArray 3) := by rw [flat_repN]; exact hA197
            have hO199 := OB.new (lo := w0.heap.size) (k := 1) (c := ns.length) hA197x (by omega) (by rw [flat_length enN_len]; simp) (by omega)
            have hF201 := hx198.e hF188 (Nat.le_refl _)
            have hF202 := hF189.ext hx198
            have hF203 := hO186.ext hx198
            have hE204 : Below w0.heap.size w0 w196 := hx198.e hE190 (Nat.le_refl _)
            have hz205 := hE204.le
            have hs206 := hx198.size
            have hS207 := hS193.trans (hx198.mono hS193.size)
            refine ⟨fun _ => hS207, ?_⟩
            have hl208 := hO199.lo
            have hl209 := hO199.lt
            refine d_q (v := .slice ((some ⟨w183.heap.size, 0, none⟩)) ns.length ns.length) rfl rfl (fun _ => x_assign rfl) ?_
            refine d_e (by decide) (d_e' rfl rfl (e_makeSlice T.sl38 rfl rfl (by omega) (by omega) ?_))
            intro w210 hA211
            have hx212 := hA211.ext
            have hs214 := hA211.size
            have hA211x : Al w196 w210 (.cells (flat enN (List.replicate ns.length (0 : Nat))).toArray 3) := by rw [flat_repN]; exact hA211
            have hO213 := OB.new (lo := w0.heap.size) (k := 1) (c := ns.length) hA211x (by omega) (by rw [flat_length enN_len]; simp) (by omega)
            have hF215 := hx212.e hF201 (Nat.le_refl _)
            have hF216 := hF202.ext hx212
            have hF217 := hF203.ext hx212
            have hF218 := hO199.ext hx212
            have hE219 : Below w0.heap.size w0 w210 := hx212.e hE204 (Nat.le_refl _)
            have hz220 := hE219.le
            have hs221 := hx212.size
            have hS222 := hS207.trans (hx212.mono hS207.size)
            refine ⟨fun _ => hS222, ?_⟩
            have hl223 := hO213.lo
            have hl224 := hO213.lt
            refine d_q (v := .slice ((some ⟨w196.heap.size, 0, none⟩)) ns.length ns.length) rfl rfl (fun _ => x_assign rfl) ?_
            refine d_q (v := .slice ((some ⟨w29.heap.size, 0, none⟩)) ns.length ns.length) rfl rfl (fun _ => x_assign rfl) ?_
            refine d_done ?_
            refine kn18 _ (w21.heap.size, w183.heap.size, w196.heap.size, w29.heap.size) _ ⟨rfl, rfl, rfl, rfl, rfl, rfl, rfl, trivial⟩ ⟨hF215, ?_⟩
            try dsimp only
            exact ⟨by omega, by omega, by omega, by omega, by omega, by omega, by omega, by omega, by omega, by omega, by omega, by omega, by omega, by omega, hF216, hF218, hO213, hF217⟩
          ·
            refine id (d_e' rfl rfl (e_makeSlice T.sl38 rfl rfl (by omega) (by omega) ?_))
            intro w225 hA226
            have hx227 := hA226.ext
            have hs229 := hA226.size
            have hA226x : Al w183 w225 (.cells (flat enN (List.replicate ns.length (0 : Nat))).toArray 3) := by rw [flat_repN]; exact hA226
            have hO228 := OB.new (lo := w0.heap.size) (k := 1) (c := ns.length) hA226x (by omega) (by rw [flat_length enN_len]; simp) (by omega)
            have hF230 := hx227.e hF188 (Nat.le_refl _)
            have hF231 := hF189.ext hx227
            have hF232 := hO186.ext hx227
            have hE233 : Below w0.heap.size w0 w225 := hx227.e hE190 (Nat.le_refl _)
            have hz234 := hE233.le
            have hs235 := hx227.size
            have hS236 := hS193.trans (hx227.mono hS193.size)
            refine ⟨fun _ => hS236, ?_⟩
            have hl237 := hO228.lo
            have hl238 := hO228.lt
            refine d_e (by decide) (d_e' rfl rfl (e_makeSlice T.sl38 rfl rfl (by omega) (by omega) ?_))
            intro w239 hA240
            have hx241 := hA240.ext
            have hs243 := hA240.size
            have hA240x : Al w225 w239 (.cells (flat enN (List.replicate ns.length (0 : Nat))).toArray 3) := by rw [flat_repN]; exact hA240
            have hO242 := OB.new (lo := w0.heap.size) (k := 1) (c := ns.length) hA240x (by omega) (by rw [flat_length enN_len]; simp) (by omega)
            have hF244 := hx241.e hF230 (Nat.le_refl _)
            have hF245 := hF231.ext hx241
            have hF246 := hF232.ext hx241
            have hF247 := hO228.ext hx241
            have hE248 : Below w0.heap.size w0 w239 := hx241.e hE233 (Nat.le_refl _)
            have hz249 := hE248.le
            have hs250 := hx241.size
            have hS251 := hS236.trans (hx241.mono hS236.size)
            refine ⟨fun _ => hS251, ?_⟩
            have hl252 := hO242.lo
            have hl253 := hO242.lt
            refine d_q (v := .slice ((some ⟨w225.heap.size, 0, none⟩)) ns.length ns.length) rfl rfl (fun _ => x_assign rfl) ?_
            refine d_q (v := .slice ((some ⟨w183.heap.size, 0, none⟩)) ns.length ns.length) rfl rfl (fun _ => x_assign rfl) ?_
            refine d_q (v := .slice ((some ⟨w29.heap.size, 0, none⟩)) ns.length ns.length) rfl rfl (fun _ => x_assign rfl) ?_
            refine d_done ?_
            refine kn18 _ (w21.heap.size, w225.heap.size, w183.heap.size, w29.heap.size) _ ⟨rfl, rfl, rfl, rfl, rfl, rfl, rfl, trivial⟩ ⟨hF244, ?_⟩
            try dsimp only
            exact ⟨by omega, by omega, by omega, by omega, by omega, by omega, by omega, by omega, by omega, by omega, by omega, by omega, by omega, by omega, hF245, hO242, hF247, hF246⟩
      ·
        refine id (d_e' rfl rfl (e_makeSlice T.sl38 rfl rfl (by omega) (by omega) ?_))
        intro w254 hA255
        have hx256 := hA255.ext
        have hs258 := hA255.size
        have hA255x : Al w21 w254 (.cells (flat enN (List.replicate ns.length (0 : Nat))).toArray 3) := by rw [flat_repN]; exact hA255
        have hO257 := OB.new (lo := w0.heap.size) (k := 1) (c := ns.length) hA255x (by omega) (by rw [flat_length enN_len]; simp) (by omega)
        have hF259 := hx256.e hF24 (Nat.le_refl _)
        have hE260 : Below w0.heap.size w0 w254 := hx256.e hE25 (Nat.le_refl _)
        have hz261 := hE260.le
        have hs262 := hx256.size
        have hS263 := hS28.trans (hx256.mono hS28.size)
        refine ⟨fun _ => hS263, ?_⟩
        have hl264 := hO257.lo
        have hl265 := hO257.lt
        refine d_three ?_ ?_ ?_
        ·
          refine id (d_e' rfl rfl (e_makeSlice T.sl38 rfl rfl (by omega) (by omega) ?_))
          intro w266 hA267
          have hx268 := hA267.ext
          have hs270 := hA267.size
          have hA267x : Al w254 w266 (.cells (flat enI (List.replicate ns.length (0 : Int))).toArray 3) := by rw [flat_repI]; exact hA267
          have hO269 := OB.new (lo := w0.heap.size) (k := 1) (c := ns.length) hA267x (by omega) (by rw [flat_length enI_len]; simp) (by omega)
          have hF271 := hx268.e hF259 (Nat.le_refl _)
          have hF272 := hO257.ext hx268
          have hE273 : Below w0.heap.size w0 w266 := hx268.e hE260 (Nat.le_refl _)
          have hz274 := hE273.le
          have hs275 := hx268.size
          have hS276 := hS263.trans (hx268.mono hS263.size)
          refine ⟨fun _ => hS276, ?_⟩
          have hl277 := hO269.lo
          have hl278 := hO269.lt
          refine d_q (v := .slice ((some ⟨w254.heap.size, 0, none⟩)) ns.length ns.length) rfl rfl (fun _ => x_assign rfl) ?_
          refine d_q (v := .slice ((some ⟨w21.heap.size, 0, none⟩)) ns.length ns.length) rfl rfl (fun _ => x_assign rfl) ?_
          refine d_two ?_ ?_
          ·
            refine id (d_e' rfl rfl (e_makeSlice T.sl38 rfl rfl (by omega) (by omega) ?_))
            intro w279 hA280
            have hx281 := hA280.ext
            have hs283 := hA280.size
            have hA280x : Al w266 w279 (.cells (flat enN (List.replicate ns.length (0 : Nat))).toArray 3) := by rw [flat_repN]; exact hA280
            have hO282 := OB.new (lo := w0.heap.size) (k := 1) (c := ns.length) hA280x (by omega) (by rw [flat_length enN_len]; simp) (by omega)
            have hF284 := hx281.e hF271 (Nat.le_refl _)
            have hF285 := hF272.ext hx281
            have hF286 := hO269.ext hx281
            have hE287 : Below w0.heap.size w0 w279 := hx281.e hE273 (Nat.le_refl _)
            have hz288 := hE287.le
            have hs289 := hx281.size
            have hS290 := hS276.trans (hx281.mono hS276.size)
            refine ⟨fun _ => hS290, ?_⟩
            have hl291 := hO282.lo
            have hl292 := hO282.lt
            refine d_q (v := .slice ((some ⟨w266.heap.size, 0, none⟩)) ns.length ns.length) rfl rfl (fun _ => x_assign rfl) ?_
            refine d_e (by decide) (d_e' rfl rfl (e_makeSlice T.sl38 rfl rfl (by omega) (by omega) ?_))
            intro w293 hA294
            have hx295 := hA294.ext
            have hs297 := hA294.size
            have hA294x : Al w279 w293 (.cells (flat enN (List.replicate ns.length (0 : Nat))).toArray 3) := by rw [flat_repN]; exact hA294
            have hO296 := OB.new (lo := w0.heap.size) (k := 1) (c := ns.length) hA294x (by omega) (by rw [flat_length enN_len]; simp) (by omega)
            have hF298 := hx295.e hF284 (Nat.le_refl _)
            have hF299 := hF285.ext hx295
            have hF300 := hF286.ext hx295
            have hF301 := hO282.ext hx295
            have hE302 : Below w0.heap.size w0 w293 := hx295.e hE287 (Nat.le_refl _)
            have hz303 := hE302.le
            have hs304 := hx295.size
            have hS305 := hS290.trans (hx295.mono hS290.size)
            refine ⟨fun _ => hS305, ?_⟩
            have hl306 := hO296.lo
            have hl307 := hO296.lt
            refine d_q (v := .slice ((some ⟨w279.heap.size, 0, none⟩)) ns.length ns.length) rfl rfl (fun _ => x_assign rfl) ?_
            refine d_done ?_
            refine kn18 _ (w254.heap.size, w21.heap.size, w266.heap.size, w279.heap.size) _ ⟨rfl, rfl, rfl, rfl, rfl, rfl, rfl, trivial⟩ ⟨hF298, ?_⟩
            try dsimp only
            exact ⟨by omega, by omega, by omega, by omega, by omega, by omega, by omega, by omega, by omega, by omega, by omega, by omega, by omega, by omega, hF300, hF299, hF301, hO296⟩
          ·
            refine id (d_e' rfl rfl (e_makeSlice T.sl38 rfl rfl (by omega) (by omega) ?_))
            intro w308 hA309
            have hx310 := hA309.ext
            have hs312 := hA309.size
            have hA309x : Al w266 w308 (.cells (flat enN (List.replicate ns.length (0 : Nat))).toArray 3) := by rw [flat_repN]; exact hA309
            have hO311 := OB.new (lo := w0.heap.size) (k := 1) (c := ns.length) hA309x (by omega) (by rw [flat_length enN_len]; simp) (by omega)
            have hF313 := hx310.e hF271 (Nat.le_refl _)
            have hF314 := hF272.ext hx310
            have hF315 := hO269.ext hx310
            have hE316 : Below w0.heap.size w0 w308 := hx310.e hE273 (Nat.le_refl _)
            have hz317 := hE316.le
            have hs318 := hx310.size
            have hS319 := hS276.trans (hx310.mono hS276.size)
            refine ⟨fun _ => hS319, ?_⟩
            have hl320 := hO311.lo
            have hl321 := hO311.lt
            refine d_e (by decide) (d_e' rfl rfl (e_makeSlice T.sl38 rfl rfl (by omega) (by omega) ?_))
            intro w322 hA323
            have hx324 := hA323.ext
            have hs326 := hA323.size
            have hA323x : Al w308 w322 (.cells (flat enN (List.replicate ns.length (0 : Nat))).toArray 3) := by rw [flat_repN]; exact hA323
            have hO325 := OB.new (lo := w0.heap.size) (k := 1) (c := ns.length) hA323x (by omega) (by rw [flat_length enN_len]; simp) (by omega)
            have hF327 := hx324.e hF313 (Nat.le_refl _)
            have hF328 := hF314.ext hx324
            have hF329 := hF315.ext hx324
            have hF330 := hO311.ext hx324
            have hE331 : Below w0.heap.size w0 w322 := hx324.e hE316 (Nat.le_refl _)
            have hz332 := hE331.le
            have hs333 := hx324.size
            have hS334 := hS319.trans (hx324.mono hS319.size)
            refine ⟨fun _ => hS334, ?_⟩
            have hl335 := hO325.lo
            have hl336 := hO325.lt
            refine d_q (v := .slice ((some ⟨w308.heap.size, 0, none⟩)) ns.length ns.length) rfl rfl (fun _ => x_assign rfl) ?_
            refine d_q (v := .slice ((some ⟨w266.heap.size, 0, none⟩)) ns.length ns.length) rfl rfl (fun _ => x_assign rfl) ?_
            refine d_done ?_
            refine kn18 _ (w254.heap.size, w21.heap.size, w308.heap.size, w266.heap.size) _ ⟨rfl, rfl, rfl, rfl, rfl, rfl, rfl, trivial⟩ ⟨hF327, ?_⟩
            try dsimp only
            exact ⟨by omega, by omega, by omega, by omega, by omega, by omega, by omega, by omega, by omega, by omega, by omega, by omega, by omega, by omega, hF329, hF328, hO325, hF330⟩
        ·
          refine id (d_e' rfl rfl (e_makeSlice T.sl38 rfl rfl (by omega) (by omega) ?_))
          intro w337 hA338
          have hx339 := hA338.ext
          have hs341 := hA338.size
          have hA338x : Al w254 w337 (.cells (flat enN (List.replicate ns.length (0 : Nat))).toArray 3) := by rw [flat_repN]; exact hA338
          have hO340 := OB.new (lo := w0.heap.size) (k := 1) (c := ns.length) hA338x (by omega) (by rw [flat_length enN_len]; simp) (by omega)
          have hF342 := hx339.e hF259 (Nat.le_refl _)
          have hF343 := hO257.ext hx339
          have hE344 : Below w0.heap.size w0 w337 := hx339.e hE260 (Nat.le_refl _)
          have hz345 := hE344.le
          have hs346 := hx339.size
          have hS347 := hS263.trans (hx339.mono hS263.size)
          refine ⟨fun _ => hS347, ?_⟩
          have hl348 := hO340.lo
          have hl349 := hO340.lt
          refine d_two ?_ ?_
          ·
            refine id (d_e' rfl rfl (e_makeSlice T.sl38 rfl rfl (by omega) (by omega) ?_))
            intro w350 hA351
            have hx352 := hA351.ext
            have hs354 := hA351.size
            have hA351x : Al w337 w350 (.cells (flat enI (List.replicate ns.length (0 : Int))).toArray 3) := by rw [flat_repI]; exact hA351
            have hO353 := OB.new (lo := w0.heap.size) (k := 1) (c := ns.length) hA351x (by omega) (by rw [flat_length enI_len]; simp) (by omega)
            have hF355 := hx352.e hF342 (Nat.le_refl _)
            have hF356 := hF343.ext hx352
            have hF357 := hO340.ext hx352
            have hE358 : Below w0.heap.size w0 w350 := hx352.e hE344 (Nat.le_refl _)
            have hz359 := hE358.le
            have hs360 := hx352.size
            have hS361 := hS347.trans (hx352.mono hS347.size)
            refine ⟨fun _ => hS361, ?_⟩
            have hl362 := hO353.lo
            have hl363 := hO353.lt
            refine d_q (v := .slice ((some ⟨w337.heap.size, 0, none⟩)) ns.length ns.length) rfl rfl (fun _ => x_assign rfl) ?_
            refine d_q (v := .slice ((some ⟨w21.heap.size, 0, none⟩)) ns.length ns.length) rfl rfl (fun _ => x_assign rfl) ?_
            refine d_q (v := .slice ((some ⟨w254.heap.size, 0, none⟩)) ns.length ns.length) rfl rfl (fun _ => x_assign rfl) ?_
            refine d_e (by decide) (d_e' rfl rfl (e_makeSlice T.sl38 rfl rfl (by omega) (by omega) ?_))
            intro w364 hA365
            have hx366 := hA365.ext
            have hs368 := hA365.size
            have hA365x : Al w350 w364 (.cells (flat enN (List.replicate ns.length (0 : Nat))).toArray 3) := by rw [flat_repN]; exact hA365
            have hO367 := OB.new (lo := w0.heap.size) (k := 1) (c := ns.length) hA365x (by omega) (by rw [flat_length enN_len]; simp) (by omega)
            have hF369 := hx366.e hF355 (Nat.le_refl _)
            have hF370 := hF356.ext hx366
            have hF371 := hF357.ext hx366
            have hF372 := hO353.ext hx366
            have hE373 : Below w0.heap.size w0 w364 := hx366.e hE358 (Nat.le_refl _)
            have hz374 := hE373.le
            have hs375 := hx366.size
            have hS376 := hS361.trans (hx366.mono hS361.size)
            refine ⟨fun _ => hS376, ?_⟩
            have hl377 := hO367.lo
            have hl378 := hO367.lt
            refine d_q (v := .slice ((some ⟨w350.heap.size, 0, none⟩)) ns.length ns.length) rfl rfl (fun _ => x_assign rfl) ?_
            refine d_done ?_
            refine kn18 _ (w337.heap.size, w21.heap.size, w254.heap.size, w350.heap.size) _ ⟨rfl, rfl, rfl, rfl, rfl, rfl, rfl, trivial⟩ ⟨hF369, ?_⟩
            try dsimp only
            exact ⟨by omega, by omega, by omega, by omega, by omega, by omega, by omega, by omega, by omega, by omega, by omega, by omega, by omega, by omega, hF372, hF370, hF371, hO367⟩
          ·
            refine id (d_e' rfl rfl (e_makeSlice T.sl38 rfl rfl (by omega) (by omega) ?_))
            intro w379 hA380
            have hx381 := hA380.ext
            have hs383 := hA380.size
            have hA380x : Al w337 w379 (.cells (flat enN (List.replicate ns.length (0 : Nat))).toArray 3) := by rw [flat_repN]; exact hA380
            have hO382 := OB.new (lo := w0.heap.size) (k := 1) (c := ns.length) hA380x (by omega) (by rw [flat_length enN_len]; simp) (by omega)
            have hF384 := hx381.e hF342 (Nat.le_refl _)
            have hF385 := hF343.ext hx381
            have hF386 := hO340.ext hx381
            have hE387 : Below w0.heap.size w0 w379 := hx381.e hE344 (Nat.le_refl _)
            have hz388 := hE387.le
            have hs389 := hx381.size
            have hS390 := hS347.trans (hx381.mono hS347.size)
            refine ⟨fun _ => hS390, ?_⟩
            have hl391 := hO382.lo
            have hl392 := hO382.lt
            refine d_e (by decide) (d_e' rfl rfl (e_makeSlice T.sl38 rfl rfl (by omega) (by omega) ?_))
            intro w393 hA394
            have hx395 := hA394.ext
            have hs397 := hA394.size
            have hA394x : Al w379 w393 (.cells (flat enI (List.replicate ns.length (0 : Int))).toArray 3) := by rw [flat_repI]; exact hA394
            have hO396 := OB.new (lo := w0.heap.size) (k := 1) (c := ns.length) hA394x (by omega) (by rw [flat_length enI_len]; simp) (by omega)
            have hF398 := hx395.e hF384 (Nat.le_refl _)
            have hF399 := hF385.ext hx395
            have hF400 := hF386.ext hx395
            have hF401 := hO382.ext hx395
            have hE402 : Below w0.heap.size w0 w393 := hx395.e hE387 (Nat.le_refl _)
            have hz403 := hE402.le
            have hs404 := hx395.size
            have hS405 := hS390.trans (hx395.mono hS390.size)
            refine ⟨fun _ => hS405, ?_⟩
            have hl406 := hO396.lo
            have hl407 := hO396.lt
            refine d_q (v := .slice ((some ⟨w379.heap.size, 0, none⟩)) ns.length ns.length) rfl rfl (fun _ => x_assign rfl) ?_
            refine d_q (v := .slice ((some ⟨w21.heap.size, 0, none⟩)) ns.length ns.length) rfl rfl (fun _ => x_assign rfl) ?_
            refine d_q (v := .slice ((some ⟨w254.heap.size, 0, none⟩)) ns.length ns.length) rfl rfl (fun _ => x_assign rfl) ?_
            refine d_q (v := .slice ((some ⟨w337.heap.size, 0, none⟩)) ns.length ns.length) rfl rfl (fun _ => x_assign rfl) ?_
            refine d_done ?_
            refine kn18 _ (w379.heap.size, w21.heap.size, w254.heap.size, w337.heap.size) _ ⟨rfl, rfl, rfl, rfl, rfl, rfl, rfl, trivial⟩ ⟨hF398, ?_⟩
            try dsimp only
            exact ⟨by omega, by omega, by omega, by omega, by omega, by omega, by omega, by omega, by omega, by omega, by omega, by omega, by omega, by omega, hO396, hF399, hF400, hF401⟩
        ·
          refine id (d_e' rfl rfl (e_makeSlice T.sl38 rfl rfl (by omega) (by omega) ?_))
          intro w408 hA409
          have hx410 := hA409.ext
          have hs412 := hA409.size
          have hA409x : Al w254 w408 (.cells (flat enN (List.replicate ns.length (0 : Nat))).toArray 3) := by rw [flat_repN]; exact hA409
          have hO411 := OB.new (lo := w0.heap.size) (k := 1) (c := ns.length) hA409x (by omega) (by rw [flat_length enN_len]; simp) (by omega)
          have hF413 := hx410.e hF259 (Nat.le_refl _)
          have hF414 := hO257.ext hx410
          have hE415 : Below w0.heap.size w0 w408 := hx410.e hE260 (Nat.le_refl _)
          have hz416 := hE415.le
          have hs417 := hx410.size
          have hS418 := hS263.trans (hx410.mono hS263.size)
          refine ⟨fun _ => hS418, ?_⟩
          have hl419 := hO411.lo
          have hl420 := hO411.lt
          refine d_two ?_ ?_
          ·
            refine id (d_e' rfl rfl (e_makeSlice T.sl38 rfl rfl (by omega) (by omega) ?_))
            intro w421 hA422
            have hx423 := hA422.ext
            have hs425 := hA422.size
            have hA422x : Al w408 w421 (.cells (flat enI (List.replicate ns.length (0 : Int))).toArray 3) := by rw [flat_repI]; exact hA422
            have hO424 := OB.new (lo := w0.heap.size) (k := 1) (c := ns.length) hA422x (by omega) (by rw [flat_length enI_len]; simp) (by omega)
            have hF426 := hx423.e hF413 (Nat.le_refl _)
            have hF427 := hF414.ext hx423
            have hF428 := hO411.ext hx423
            have hE429 : Below w0.heap.size w0 w421 := hx423.e hE415 (Nat.le_refl _)
            have hz430 := hE429.le
            have hs431 := hx423.size
            have hS432 := hS418.trans (hx423.mono hS418.size)
            refine ⟨fun _ => hS432, ?_⟩
            have hl433 := hO424.lo
            have hl434 := hO424.lt
            refine d_q (v := .slice ((some ⟨w408.heap.size, 0, none⟩)) ns.length ns.length) rfl rfl (fun _ => x_assign rfl) ?_
            refine d_q (v := .slice ((some ⟨w21.heap.size, 0, none⟩)) ns.length ns.length) rfl rfl (fun _ => x_assign rfl) ?_
            refine d_e (by decide) (d_e' rfl rfl (e_makeSlice T.sl38 rfl rfl (by omega) (by omega) ?_))
            intro w435 hA436
            have hx437 := hA436.ext
            have hs439 := hA436.size
            have hA436x : Al w421 w435 (.cells (flat enN (List.replicate ns.length (0 : Nat))).toArray 3) := by rw [flat_repN]; exact hA436
            have hO438 := OB.new (lo := w0.heap.size) (k := 1) (c := ns.length) hA436x (by omega) (by rw [flat_length enN_len]; simp) (by omega)
            have hF440 := hx437.e hF426 (Nat.le_refl _)
            have hF441 := hF427.ext hx437
            have hF442 := hF428.ext hx437
            have hF443 := hO424.ext hx437
            have hE444 : Below w0.heap.size w0 w435 := hx437.e hE429 (Nat.le_refl _)
            have hz445 := hE444.le
            have hs446 := hx437.size
            have hS447 := hS432.trans (hx437.mono hS432.size)
            refine ⟨fun _ => hS447, ?_⟩
            have hl448 := hO438.lo
            have hl449 := hO438.lt
            refine d_q (v := .slice ((some ⟨w421.heap.size, 0, none⟩)) ns.length ns.length) rfl rfl (fun _ => x_assign rfl) ?_
            refine d_q (v := .slice ((some ⟨w254.heap.size, 0, none⟩)) ns.length ns.length) rfl rfl (fun _ => x_assign rfl) ?_
            refine d_done ?_
            refine kn18 _ (w408.heap.size, w21.heap.size, w421.heap.size, w254.heap.size) _ ⟨rfl, rfl, rfl, rfl, rfl, rfl, rfl, trivial⟩ ⟨hF440, ?_⟩
            try dsimp only
            exact ⟨by omega, by omega, by omega, by omega, by omega, by omega, by omega, by omega, by omega, by omega, by omega, by omega, by omega, by omega, hF443, hF441, hO438, hF442⟩
          ·
            refine id (d_e' rfl rfl (e_makeSlice T.sl38 rfl rfl (by omega) (by omega) ?_))
            intro w450 hA451
            have hx452 := hA451.ext
            have hs454 := hA451.size
            have hA451x : Al w408 w450 (.cells (flat enN (List.replicate ns.length (0 : Nat))).toArray 3) := by rw [flat_repN]; exact hA451
            have hO453 := OB.new (lo := w0.heap.size) (k := 1) (c := ns.length) hA451x (by omega) (by rw [flat_length enN_len]; simp) (by omega)
            have hF455 := hx452.e hF413 (Nat.le_refl _)
            have hF456 := hF414.ext hx452
            have hF457 := hO411.ext hx452
            have hE458 : Below w0.heap.size w0 w450 := hx452.e hE415 (Nat.le_refl _)
            have hz459 := hE458.le
            have hs460 := hx452.size
            have hS461 := hS418.trans (hx452.mono hS418.size)
            refine ⟨fun _ => hS461, ?_⟩
            have hl462 := hO453.lo
            have hl463 := hO453.lt
            refine d_e (by decide) (d_e' rfl rfl (e_makeSlice T.sl38 rfl rfl (by omega) (by omega) ?_))
            intro w464 hA465
            have hx466 := hA465.ext
            have hs468 := hA465.size
            have hA465x : Al w450 w464 (.cells (flat enI (List.replicate ns.length (0 : Int))).toArray 3) := by rw [flat_repI]; exact hA465
            have hO467 := OB.new (lo := w0.heap.size) (k := 1) (c := ns.length) hA465x (by omega) (by rw [flat_length enI_len]; simp) (by omega)
            have hF469 := hx466.e hF455 (Nat.le_refl _)
            have hF470 := hF456.ext hx466
            have hF471 := hF457.ext hx466
            have hF472 := hO453.ext hx466
            have hE473 : Below w0.heap.size w0 w464 := hx466.e hE458 (Nat.le_refl _)
            have hz474 := hE473.le
            have hs475 := hx466.size
            have hS476 := hS461.trans (hx466.mono hS461.size)
            refine ⟨fun _ => hS476, ?_⟩
            have hl477 := hO467.lo
            have hl478 := hO467.lt
            refine d_q (v := .slice ((some ⟨w450.heap.size, 0, none⟩)) ns.length ns.length) rfl rfl (fun _ => x_assign rfl) ?_
            refine d_q (v := .slice ((some ⟨w21.heap.size, 0, none⟩)) ns.length ns.length) rfl rfl (fun _ => x_assign rfl) ?_
            refine d_q (v := .slice ((some ⟨w408.heap.size, 0, none⟩)) ns.length ns.length) rfl rfl (fun _ => x_assign rfl) ?_
            refine d_q (v := .slice ((some ⟨w254.heap.size, 0, none⟩)) ns.length ns.length) rfl rfl (fun _ => x_assign rfl) ?_
            refine d_done ?_
            refine kn18 _ (w450.heap.size, w21.heap.size, w408.heap.size, w254.heap.size) _ ⟨rfl, rfl, rfl, rfl, rfl, rfl, rfl, trivial⟩ ⟨hF469, ?_⟩
            try dsimp only
            exact ⟨by omega, by omega, by omega, by omega, by omega, by omega, by omega, by omega, by omega, by omega, by omega, by omega, by omega, by omega, hO467, hF470, hF472, hF471⟩
      ·
        refine id (d_e' rfl rfl (e_makeSlice T.sl38 rfl rfl (by omega) (by omega) ?_))
        intro w479 hA480
        have hx481 := hA480.ext
        have hs483 := hA480.size
        have hA480x : Al w21 w479 (.cells (flat enN (List.replicate ns.length (0 : Nat))).toArray 3) := by rw [flat_repN]; exact hA480
        have hO482 := OB.new (lo := w0.heap.size) (k := 1) (c := ns.length) hA480x (by omega) (by rw [flat_length enN_len]; simp) (by omega)
        have hF484 := hx481.e hF24 (Nat.le_refl _)
        have hE485 : Below w0.heap.size w0 w479 := hx481.e hE25 (Nat.le_refl _)
        have hz486 := hE485.le
        have hs487 := hx481.size
        have hS488 := hS28.trans (hx481.mono hS28.size)
        refine ⟨fun _ => hS488, ?_⟩
        have hl489 := hO482.lo
        have hl490 := hO482.lt
        refine d_three ?_ ?_ ?_
        ·
          refine id (d_e' rfl rfl (e_makeSlice T.sl38 rfl rfl (by omega) (by omega) ?_))
          intro w491 hA492
          have hx493 := hA492.ext
          have hs495 := hA492.size
          have hA492x : Al w479 w491 (.cells (flat enI (List.replicate ns.length (0 : Int))).toArray 3) := by rw [flat_repI]; exact hA492
          have hO494 := OB.new (lo := w0.heap.size) (k := 1) (c := ns.length) hA492x (by omega) (by rw [flat_length enI_len]; simp) (by omega)
          have hF496 := hx493.e hF484 (Nat.le_refl _)
          have hF497 := hO482.ext hx493
          have hE498 : Below w0.heap.size w0 w491 := hx493.e hE485 (Nat.le_refl _)
          have hz499 := hE498.le
          have hs500 := hx493.size
          have hS501 := hS488.trans (hx493.mono hS488.size)
          refine ⟨fun _ => hS501, ?_⟩
          have hl502 := hO494.lo
          have hl503 := hO494.lt
          refine d_q (v := .slice ((some ⟨w479.heap.size, 0, none⟩)) ns.length ns.length) rfl rfl (fun _ => x_assign rfl) ?_
          refine d_two ?_ ?_
          ·
            refine id (d_e' rfl rfl (e_makeSlice T.sl38 rfl rfl (by omega) (by omega) ?_))
            intro w504 hA505
            have hx506 := hA505.ext
            have hs508 := hA505.size
            have hA505x : Al w491 w504 (.cells (flat enN (List.replicate ns.length (0 : Nat))).toArray 3) := by rw [flat_repN]; exact hA505
            have hO507 := OB.new (lo := w0.heap.size) (k := 1) (c := ns.length) hA505x (by omega) (by rw [flat_length enN_len]; simp) (by omega)
            have hF509 := hx506.e hF496 (Nat.le_refl _)
            have hF510 := hF497.ext hx506
            have hF511 := hO494.ext hx506
            have hE512 : Below w0.heap.size w0 w504 := hx506.e hE498 (Nat.le_refl _)
            have hz513 := hE512.le
            have hs514 := hx506.size
            have hS515 := hS501.trans (hx506.mono hS501.size)
            refine ⟨fun _ => hS515, ?_⟩
            have hl516 := hO507.lo
            have hl517 := hO507.lt
            refine d_q (v := .slice ((some ⟨w491.heap.size, 0, none⟩)) ns.length ns.length) rfl rfl (fun _ => x_assign rfl) ?_
            refine d_q (v := .slice ((some ⟨w21.heap.size, 0, none⟩)) ns.length ns.length) rfl rfl (fun _ => x_assign rfl) ?_
            refine d_e (by decide) (d_e' rfl rfl (e_makeSlice T.sl38 rfl rfl (by omega) (by omega) ?_))
            intro w518 hA519
            have hx520 := hA519.ext
            have hs522 := hA519.size
            have hA519x : Al w504 w518 (.cells (flat enN (List.replicate ns.length (0 : Nat))).toArray 3) := by rw [flat_repN]; exact hA519
            have hO521 := OB.new (lo := w0.heap.size) (k := 1) (c := ns.length) hA519x (by omega) (by rw [flat_length enN_len]; simp) (by omega)
            have hF523 := hx520.e hF509 (Nat.le_refl _)
            have hF524 := hF510.ext hx520
            have hF525 := hF511.ext hx520
            have hF526 := hO507.ext hx520
            have hE527 : Below w0.heap.size w0 w518 := hx520.e hE512 (Nat.le_refl _)
            have hz528 := hE527.le
            have hs529 := hx520.size
            have hS530 := hS515.trans (hx520.mono hS515.size)
            refine ⟨fun _ => hS530, ?_⟩
            have hl531 := hO521.lo
            have hl532 := hO521.lt
            refine d_q (v := .slice ((some ⟨w504.heap.size, 0, none⟩)) ns.length ns.length) rfl rfl (fun _ => x_assign rfl) ?_
            refine d_done ?_
            refine kn18 _ (w479.heap.size, w491.heap.size, w21.heap.size, w504.heap.size) _ ⟨rfl, rfl, rfl, rfl, rfl, rfl, rfl, trivial⟩ ⟨hF523, ?_⟩
            try dsimp only
            exact ⟨by omega, by omega, by omega, by omega, by omega, by omega, by omega, by omega, by omega, by omega, by omega, by omega, by omega, by omega, hF525, hF526, hF524, hO521⟩
          ·
            refine id (d_e' rfl rfl (e_makeSlice T.sl38 rfl rfl (by omega) (by omega) ?_))
            intro w533 hA534
            have hx535 := hA534.ext
            have hs537 := hA534.size
            have hA534x : Al w491 w533 (.cells (flat enN (List.replicate ns.length (0 : Nat))).toArray 3) := by rw [flat_repN]; exact hA534
            have hO536 := OB.new (lo := w0.heap.size) (k := 1) (c := ns.length) hA534x (by omega) (by rw [flat_length enN_len]; simp) (by omega)
            have hF538 := hx535.e hF496 (Nat.le_refl _)
            have hF539 := hF497.ext hx535
            have hF540 := hO494.ext hx535
            have hE541 : Below w0.heap.size w0 w533 := hx535.e hE498 (Nat.le_refl _)
            have hz542 := hE541.le
            have hs543 := hx535.size
            have hS544 := hS501.trans (hx535.mono hS501.size)
            refine ⟨fun _ => hS544, ?_⟩
            have hl545 := hO536.lo
            have hl546 := hO536.lt
            refine d_e (by decide) (d_e' rfl rfl (e_makeSlice T.sl38 rfl rfl (by omega) (by omega) ?_))
            intro w547 hA548
            have hx549 := hA548.ext
            have hs551 := hA548.size
            have hA548x : Al w533 w547 (.cells (flat enN (List.replicate ns.length (0 : Nat))).toArray 3) := by rw [flat_repN]; exact hA548
            have hO550 := OB.new (lo := w0.heap.size) (k := 1) (c := ns.length) hA548x (by omega) (by rw [flat_length enN_len]; simp) (by omega)
            have hF552 := hx549.e hF538 (Nat.le_refl _)
            have hF553 := hF539.ext hx549
            have hF554 := hF540.ext hx549
            have hF555 := hO536.ext hx549
            have hE556 : Below w0.heap.size w0 w547 := hx549.e hE541 (Nat.le_refl _)
            have hz557 := hE556.le
            have hs558 := hx549.size
            have hS559 := hS544.trans (hx549.mono hS544.size)
            refine ⟨fun _ => hS559, ?_⟩
            have hl560 := hO550.lo
            have hl561 := hO550.lt
            refine d_q (v := .slice ((some ⟨w533.heap.size, 0, none⟩)) ns.length ns.length) rfl rfl (fun _ => x_assign rfl) ?_
            refine d_q (v := .slice ((some ⟨w21.heap.size, 0, none⟩)) ns.length ns.length) rfl rfl (fun _ => x_assign rfl) ?_
            refine d_q (v := .slice ((some ⟨w491.heap.size, 0, none⟩)) ns.length ns.length) rfl rfl (fun _ => x_assign rfl) ?_
            refine d_done ?_
            refine kn18 _ (w479.heap.size, w533.heap.size, w21.heap.size, w491.heap.size) _ ⟨rfl, rfl, rfl, rfl, rfl, rfl, rfl, trivial⟩ ⟨hF552, ?_⟩
            try dsimp only
            exact ⟨by omega, by omega, by omega, by omega, by omega, by omega, by omega, by omega, by omega, by omega, by omega, by omega, by omega, by omega, hF554, hO550, hF553, hF555⟩
        ·
          refine id (d_e' rfl rfl (e_makeSlice T.sl38 rfl rfl (by omega) (by omega) ?_))
          intro w562 hA563
          have hx564 := hA563.ext
          have hs566 := hA563.size
          have hA563x : Al w479 w562 (.cells (flat enN (List.replicate ns.length (0 : Nat))).toArray 3) := by rw [flat_repN]; exact hA563
          have hO565 := OB.new (lo := w0.heap.size) (k := 1) (c := ns.length) hA563x (by omega) (by rw [flat_length enN_len]; simp) (by omega)
          have hF567 := hx564.e hF484 (Nat.le_refl _)
          have hF568 := hO482.ext hx564
          have hE569 : Below w0.heap.size w0 w562 := hx564.e hE485 (Nat.le_refl _)
          have hz570 := hE569.le
          have hs571 := hx564.size
          have hS572 := hS488.trans (hx564.mono hS488.size)
          refine ⟨fun _ => hS572, ?_⟩
          have hl573 := hO565.lo
          have hl574 := hO565.lt
          refine d_two ?_ ?_
          ·
            refine id (d_e' rfl rfl (e_makeSlice T.sl38 rfl rfl (by omega) (by omega) ?_))
            intro w575 hA576
            have hx577 := hA576.ext
            have hs579 := hA576.size
            have hA576x : Al w562 w575 (.cells (flat enI (List.replicate ns.length (0 : Int))).toArray 3) := by rw [flat_repI]; exact hA576
            have hO578 := OB.new (lo := w0.heap.size) (k := 1) (c := ns.length) hA576x (by omega) (by rw [flat_length enI_len]; simp) (by omega)
            have hF580 := hx577.e hF567 (Nat.le_refl _)
            have hF581 := hF568.ext hx577
            have hF582 := hO565.ext hx577
            have hE583 : Below w0.heap.size w0 w575 := hx577.e hE569 (Nat.le_refl _)
            have hz584 := hE583.le
            have hs585 := hx577.size
            have hS586 := hS572.trans (hx577.mono hS572.size)
            refine ⟨fun _ => hS586, ?_⟩
            have hl587 := hO578.lo
            have hl588 := hO578.lt
            refine d_q (v := .slice ((some ⟨w562.heap.size, 0, none⟩)) ns.length ns.length) rfl rfl (fun _ => x_assign rfl) ?_
            refine d_q (v := .slice ((some ⟨w479.heap.size, 0, none⟩)) ns.length ns.length) rfl rfl (fun _ => x_assign rfl) ?_
            refine d_q (v := .slice ((some ⟨w21.heap.size, 0, none⟩)) ns.length ns.length) rfl rfl (fun _ => x_assign rfl) ?_
            refine d_e (by decide) (d_e' rfl rfl (e_makeSlice T.sl38 rfl rfl (by omega) (by omega) ?_))
            intro w589 hA590
            have hx591 := hA590.ext
            have hs593 := hA590.size
            have hA590x : Al w575 w589 (.cells (flat enN (List.replicate ns.length (0 : Nat))).toArray 3) := by rw [flat_repN]; exact hA590
            have hO592 := OB.new (lo := w0.heap.size) (k := 1) (c := ns.length) hA590x (by omega) (by rw [flat_length enN_len]; simp) (by omega)
            have hF594 := hx591.e hF580 (Nat.le_refl _)
            have hF595 := hF581.ext hx591
            have hF596 := hF582.ext hx591
            have hF597 := hO578.ext hx591
            have hE598 : Below w0.heap.size w0 w589 := hx591.e hE583 (Nat.le_refl _)
            have hz599 := hE598.le
            have hs600 := hx591.size
            have hS601 := hS586.trans (hx591.mono hS586.size)
            refine ⟨fun _ => hS601, ?_⟩
            have hl602 := hO592.lo
            have hl603 := hO592.lt
            refine d_q (v := .slice ((some ⟨w575.heap.size, 0, none⟩)) ns.length ns.length) rfl rfl (fun _ => x_assign rfl) ?_
            refine d_done ?_
            refine kn18 _ (w562.heap.size, w479.heap.size, w21.heap.size, w575.heap.size) _ ⟨rfl, rfl, rfl, rfl, rfl, rfl, rfl, trivial⟩ ⟨hF594, ?_⟩
            try dsimp only
            exact ⟨by omega, by omega, by omega, by omega, by omega, by omega, by omega, by omega, by omega, by omega, by omega, by omega, by omega, by omega, hF597, hF596, hF595, hO592⟩
          ·
            refine id (d_e' rfl rfl (e_makeSlice T.sl38 rfl rfl (by omega) (by omega) ?_))
            intro w604 hA605
            have hx606 := hA605.ext
            have hs608 := hA605.size
            have hA605x : Al w562 w604 (.cells (flat enN (List.replicate ns.length (0 : Nat))).toArray 3) := by rw [flat_repN]; exact hA605
            have hO607 := OB.new (lo := w0.heap.size) (k := 1) (c := ns.length) hA605x (by omega) (by rw [flat_length enN_len]; simp) (by omega)
            have hF609 := hx606.e hF567 (Nat.le_refl _)
            have hF610 := hF568.ext hx606
            have hF611 := hO565.ext hx606
            have hE612 : Below w0.heap.size w0 w604 := hx606.e hE569 (Nat.le_refl _)
            have hz613 := hE612.le
            have hs614 := hx606.size
            have hS615 := hS572.trans (hx606.mono hS572.size)
            refine ⟨fun _ => hS615, ?_⟩
            have hl616 := hO607.lo
            have hl617 := hO607.lt
            refine d_e (by decide) (d_e' rfl rfl (e_makeSlice T.sl38 rfl rfl (by omega) (by omega) ?_))
            intro w618 hA619
            have hx620 := hA619.ext
            have hs622 := hA619.size
            have hA619x : Al w604 w618 (.cells (flat enI (List.replicate ns.length (0 : Int))).toArray 3) := by rw [flat_repI]; exact hA619
            have hO621 := OB.new (lo := w0.heap.size) (k := 1) (c := ns.length) hA619x (by omega) (by rw [flat_length enI_len]; simp) (by omega)
            have hF623 := hx620.e hF609 (Nat.le_refl _)
            have hF624 := hF610.ext hx620
            have hF625 := hF611.ext hx620
            have hF626 := hO607.ext hx620
            have hE627 : Below w0.heap.size w0 w618 := hx620.e hE612 (Nat.le_refl _)
            have hz628 := hE627.le
            have hs629 := hx620.size
            have hS630 := hS615.trans (hx620.mono hS615.size)
            refine ⟨fun _ => hS630, ?_⟩
            have hl631 := hO621.lo
            have hl632 := hO621.lt
            refine d_q (v := .slice ((some ⟨w604.heap.size, 0, none⟩)) ns.length ns.length) rfl rfl (fun _ => x_assign rfl) ?_
            refine d_q (v := .slice ((some ⟨w479.heap.size, 0, none⟩)) ns.length ns.length) rfl rfl (fun _ => x_assign rfl) ?_
            refine d_q (v := .slice ((some ⟨w21.heap.size, 0, none⟩)) ns.length ns.length) rfl rfl (fun _ => x_assign rfl) ?_
            refine d_q (v := .slice ((some ⟨w562.heap.size, 0, none⟩)) ns.length ns.length) rfl rfl (fun _ => x_assign rfl) ?_
            refine d_done ?_
            refine kn18 _ (w604.heap.size, w479.heap.size, w21.heap.size, w562.heap.size) _ ⟨rfl, rfl, rfl, rfl, rfl, rfl, rfl, trivial⟩ ⟨hF623, ?_⟩
            try dsimp only
            exact ⟨by omega, by omega, by omega, by omega, by omega, by omega, by omega, by omega, by omega, by omega, by omega, by omega, by omega, by omega, hO621, hF625, hF624, hF626⟩
        ·
          refine id (d_e' rfl rfl (e_makeSlice T.sl38 rfl rfl (by omega) (by omega) ?_))
          intro w633 hA634
          have hx635 := hA634.ext
          have hs637 := hA634.size
          have hA634x : Al w479 w633 (.cells (flat enN (List.replicate ns.length (0 : Nat))).toArray 3) := by rw [flat_repN]; exact hA634
          have hO636 := OB.new (lo := w0.heap.size) (k := 1) (c := ns.length) hA634x (by omega) (by rw [flat_length enN_len]; simp) (by omega)
          have hF638 := hx635.e hF484 (Nat.le_refl _)
          have hF639 := hO482.ext hx635
          have hE640 : Below w0.heap.size w0 w633 := hx635.e hE485 (Nat.le_refl _)
          have hz641 := hE640.le
          have hs642 := hx635.size
          have hS643 := hS488.trans (hx635.mono hS488.size)
          refine ⟨fun _ => hS643, ?_⟩
          have hl644 := hO636.lo
          have hl645 := hO636.lt
          refine d_two ?_ ?_
          ·
            refine id (d_e' rfl rfl (e_makeSlice T.sl38 rfl rfl (by omega) (by omega) ?_))
            intro w646 hA647
            have hx648 := hA647.ext
            have hs650 := hA647.size
            have hA647x : Al w633 w646 (.cells (flat enI (List.replicate ns.length (0 : Int))).toArray 3) := by rw [flat_repI]; exact hA647
            have hO649 := OB.new (lo := w0.heap.size) (k := 1) (c := ns.length) hA647x (by omega) (by rw [flat_length enI_len]; simp) (by omega)
            have hF651 := hx648.e hF638 (Nat.le_refl _)
            have hF652 := hF639.ext hx648
            have hF653 := hO636.ext hx648
            have hE654 : Below w0.heap.size w0 w646 := hx648.e hE640 (Nat.le_refl _)
            have hz655 := hE654.le
            have hs656 := hx648.size
            have hS657 := hS643.trans (hx648.mono hS643.size)
            refine ⟨fun _ => hS657, ?_⟩
            have hl658 := hO649.lo
            have hl659 := hO649.lt
            refine d_q (v := .slice ((some ⟨w633.heap.size, 0, none⟩)) ns.length ns.length) rfl rfl (fun _ => x_assign rfl) ?_
            refine d_e (by decide) (d_e' rfl rfl (e_makeSlice T.sl38 rfl rfl (by omega) (by omega) ?_))
            intro w660 hA661
            have hx662 := hA661.ext
            have hs664 := hA661.size
            have hA661x : Al w646 w660 (.cells (flat enN (List.replicate ns.length (0 : Nat))).toArray 3) := by rw [flat_repN]; exact hA661
            have hO663 := OB.new (lo := w0.heap.size) (k := 1) (c := ns.length) hA661x (by omega) (by rw [flat_length enN_len]; simp) (by omega)
            have hF665 := hx662.e hF651 (Nat.le_refl _)
            have hF666 := hF652.ext hx662
            have hF667 := hF653.ext hx662
            have hF668 := hO649.ext hx662
            have hE669 : Below w0.heap.size w0 w660 := hx662.e hE654 (Nat.le_refl _)
            have hz670 := hE669.le
            have hs671 := hx662.size
            have hS672 := hS657.trans (hx662.mono hS657.size)
            refine ⟨fun _ => hS672, ?_⟩
            have hl673 := hO663.lo
            have hl674 := hO663.lt
            refine d_q (v := .slice ((some ⟨w646.heap.size, 0, none⟩)) ns.length ns.length) rfl rfl (fun _ => x_assign rfl) ?_
            refine d_q (v := .slice ((some ⟨w21.heap.size, 0, none⟩)) ns.length ns.length) rfl rfl (fun _ => x_assign rfl) ?_
            refine d_q (v := .slice ((some ⟨w479.heap.size, 0, none⟩)) ns.length ns.length) rfl rfl (fun _ => x_assign rfl) ?_
            refine d_done ?_
            refine kn18 _ (w633.heap.size, w646.heap.size, w21.heap.size, w479.heap.size) _ ⟨rfl, rfl, rfl, rfl, rfl, rfl, rfl, trivial⟩ ⟨hF665, ?_⟩
            try dsimp only
            exact ⟨by omega, by omega, by omega, by omega, by omega, by omega, by omega, by omega, by omega, by omega, by omega, by omega, by omega, by omega, hF668, hO663, hF666, hF667⟩
          ·
            refine id (d_e' rfl rfl (e_makeSlice T.sl38 rfl rfl (by omega) (by omega) ?_))
            intro w675 hA676
            have hx677 := hA676.ext
            have hs679 := hA676.size
            have hA676x : Al w633 w675 (.cells (flat enN (List.replicate ns.length (0 : Nat))).toArray 3) := by rw [flat_repN]; exact hA676
            have hO678 := OB.new (lo := w0.heap.size) (k := 1) (c := ns.length) hA676x (by omega) (by rw [flat_length enN_len]; simp) (by omega)
            have hF680 := hx677.e hF638 (Nat.le_refl _)
            have hF681 := hF639.ext hx677
            have hF682 := hO636.ext hx677
            have hE683 : Below w0.heap.size w0 w675 := hx677.e hE640 (Nat.le_refl _)
            have hz684 := hE683.le
            have hs685 := hx677.size
            have hS686 := hS643.trans (hx677.mono hS643.size)
            refine ⟨fun _ => hS686, ?_⟩
            have hl687 := hO678.lo
            have hl688 := hO678.lt
            refine d_e (by decide) (d_e' rfl rfl (e_makeSlice T.sl38 rfl rfl (by omega) (by omega) ?_))
            intro w689 hA690
            have hx691 := hA690.ext
            have hs693 := hA690.size
            have hA690x : Al w675 w689 (.cells (flat enI (List.replicate ns.length (0 : Int))).toArray 3) := by rw [flat_repI]; exact hA690
            have hO692 := OB.new (lo := w0.heap.size) (k := 1) (c := ns.length) hA690x (by omega) (by rw [flat_length enI_len]; simp) (by omega)
            have hF694 := hx691.e hF680 (Nat.le_refl _)
            have hF695 := hF681.ext hx691
            have hF696 := hF682.ext hx691
            have hF697 := hO678.ext hx691
            have hE698 : Below w0.heap.size w0 w689 := hx691.e hE683 (Nat.le_refl _)
            have hz699 := hE698.le
            have hs700 := hx691.size
            have hS701 := hS686.trans (hx691.mono hS686.size)
            refine ⟨fun _ => hS701, ?_⟩
            have hl702 := hO692.lo
            have hl703 := hO692.lt
            refine d_q (v := .slice ((some ⟨w675.heap.size, 0, none⟩)) ns.length ns.length) rfl rfl (fun _ => x_assign rfl) ?_
            refine d_q (v := .slice ((some ⟨w633.heap.size, 0, none⟩)) ns.length ns.length) rfl rfl (fun _ => x_assign rfl) ?_
            refine d_q (v := .slice ((some ⟨w21.heap.size, 0, none⟩)) ns.length ns.length) rfl rfl (fun _ => x_assign rfl) ?_
            refine d_q (v := .slice ((some ⟨w479.heap.size, 0, none⟩)) ns.length ns.length) rfl rfl (fun _ => x_assign rfl) ?_
            refine d_done ?_
            refine kn18 _ (w675.heap.size, w633.heap.size, w21.heap.size, w479.heap.size) _ ⟨rfl, rfl, rfl, rfl, rfl, rfl, rfl, trivial⟩ ⟨hF694, ?_⟩
            try dsimp only
            exact ⟨by omega, by omega, by omega, by omega, by omega, by omega, by omega, by omega, by omega, by omega, by omega, by omega, by omega, by omega, hO692, hF697, hF695, hF696⟩
      ·
        refine id (d_e' rfl rfl (e_makeSlice T.sl38 rfl rfl (by omega) (by omega) ?_))
        intro w704 hA705
        have hx706 := hA705.ext
        have hs708 := hA705.size
        have hA705x : Al w21 w704 (.cells (flat enN (List.replicate ns.length (0 : Nat))).toArray 3) := by rw [flat_repN]; exact hA705
        have hO707 := OB.new (lo := w0.heap.size) (k := 1) (c := ns.length) hA705x (by omega) (by rw [flat_length enN_len]; simp) (by omega)
        have hF709 := hx706.e hF24 (Nat.le_refl _)
        have hE710 : Below w0.heap.size w0 w704 := hx706.e hE25 (Nat.le_refl _)
        have hz711 := hE710.le
        have hs712 := hx706.size
        have hS713 := hS28.trans (hx706.mono hS28.size)
        refine ⟨fun _ => hS713, ?_⟩
        have hl714 := hO707.lo
        have hl715 := hO707.lt
        refine d_three ?_ ?_ ?_
        ·
          refine id (d_e' rfl rfl (e_makeSlice T.sl38 rfl rfl (by omega) (by omega) ?_))
          intro w716 hA717
          have hx718 := hA717.ext
          have hs720 := hA717.size
          have hA717x : Al w704 w716 (.cells (flat enI (List.replicate ns.length (0 : Int))).toArray 3) := by rw [flat_repI]; exact hA717
          have hO719 := OB.new (lo := w0.heap.size) (k := 1) (c := ns.length) hA717x (by omega) (by rw [flat_length enI_len]; simp) (by omega)
          have hF721 := hx718.e hF709 (Nat.le_refl _)
          have hF722 := hO707.ext hx718
          have hE723 : Below w0.heap.size w0 w716 := hx718.e hE710 (Nat.le_refl _)
          have hz724 := hE723.le
          have hs725 := hx718.size
          have hS726 := hS713.trans (hx718.mono hS713.size)
          refine ⟨fun _ => hS726, ?_⟩
          have hl727 := hO719.lo
          have hl728 := hO719.lt
          refine d_q (v := .slice ((some ⟨w704.heap.size, 0, none⟩)) ns.length ns.length) rfl rfl (fun _ => x_assign rfl) ?_
          refine d_two ?_ ?_
          ·
            refine id (d_e' rfl rfl (e_makeSlice T.sl38 rfl rfl (by omega) (by omega) ?_))
            intro w729 hA730
            have hx731 := hA730.ext
            have hs733 := hA730.size
            have hA730x : Al w716 w729 (.cells (flat enN (List.replicate ns.length (0 : Nat))).toArray 3) := by rw [flat_repN]; exact hA730
            have hO732 := OB.new (lo := w0.heap.size) (k := 1) (c := ns.length) hA730x (by omega) (by rw [flat_length enN_len]; simp) (by omega)
            have hF734 := hx731.e hF721 (Nat.le_refl _)
            have hF735 := hF722.ext hx731
            have hF736 := hO719.ext hx731
            have hE737 : Below w0.heap.size w0 w729 := hx731.e hE723 (Nat.le_refl _)
            have hz738 := hE737.le
            have hs739 := hx731.size
            have hS740 := hS726.trans (hx731.mono hS726.size)
            refine ⟨fun _ => hS740, ?_⟩
            have hl741 := hO732.lo
            have hl742 := hO732.lt
            refine d_q (v := .slice ((some ⟨w716.heap.size, 0, none⟩)) ns.length ns.length) rfl rfl (fun _ => x_assign rfl) ?_
            refine d_e (by decide) (d_e' rfl rfl (e_makeSlice T.sl38 rfl rfl (by omega) (by omega) ?_))
            intro w743 hA744
            have hx745 := hA744.ext
            have hs747 := hA744.size
            have hA744x : Al w729 w743 (.cells (flat enN (List.replicate ns.length (0 : Nat))).toArray 3) := by rw [flat_repN]; exact hA744
            have hO746 := OB.new (lo := w0.heap.size) (k := 1) (c := ns.length) hA744x (by omega) (by rw [flat_length enN_len]; simp) (by omega)
            have hF748 := hx745.e hF734 (Nat.le_refl _)
            have hF749 := hF735.ext hx745
            have hF750 := hF736.ext hx745
            have hF751 := hO732.ext hx745
            have hE752 : Below w0.heap.size w0 w743 := hx745.e hE737 (Nat.le_refl _)
            have hz753 := hE752.le
            have hs754 := hx745.size
            have hS755 := hS740.trans (hx745.mono hS740.size)
            refine ⟨fun _ => hS755, ?_⟩
            have hl756 := hO746.lo
            have hl757 := hO746.lt
            refine d_q (v := .slice ((some ⟨w729.heap.size, 0, none⟩)) ns.length ns.length) rfl rfl (fun _ => x_assign rfl) ?_
            refine d_q (v := .slice ((some ⟨w21.heap.size, 0, none⟩)) ns.length ns.length) rfl rfl (fun _ => x_assign rfl) ?_
            refine d_done ?_
            refine kn18 _ (w704.heap.size, w716.heap.size, w729.heap.size, w21.heap.size) _ ⟨rfl, rfl, rfl, rfl, rfl, rfl, rfl, trivial⟩ ⟨hF748, ?_⟩
            try dsimp only
            exact ⟨by omega, by omega, by omega, by omega, by omega, by omega, by omega, by omega, by omega, by omega, by omega, by omega, by omega, by omega, hF750, hF751, hO746, hF749⟩
          ·
            refine id (d_e' rfl rfl (e_makeSlice T.sl38 rfl rfl (by omega) (by omega) ?_))
            intro w758 hA759
            have hx760 := hA759.ext
            have hs762 := hA759.size
            have hA759x : Al w716 w758 (.cells (flat enN (List.replicate ns.length (0 : Nat))).toArray 3) := by rw [flat_repN]; exact hA759
            have hO761 := OB.new (lo := w0.heap.size) (k := 1) (c := ns.length) hA759x (by omega) (by rw [flat_length enN_len]; simp) (by omega)
            have hF763 := hx760.e hF721 (Nat.le_refl _)
            have hF764 := hF722.ext hx760
            have hF765 := hO719.ext hx760
            have hE766 : Below w0.heap.size w0 w758 := hx760.e hE723 (Nat.le_refl _)
            have hz767 := hE766.le
            have hs768 := hx760.size
            have hS769 := hS726.trans (hx760.mono hS726.size)
            refine ⟨fun _ => hS769, ?_⟩
            have hl770 := hO761.lo
            have hl771 := hO761.lt
            refine d_e (by decide) (d_e' rfl rfl (e_makeSlice T.sl38 rfl rfl (by omega) (by omega) ?_))
            intro w772 hA773
            have hx774 := hA773.ext
            have hs776 := hA773.size
            have hA773x : Al w758 w772 (.cells (flat enN (List.replicate ns.length (0 : Nat))).toArray 3) := by rw [flat_repN]; exact hA773
            have hO775 := OB.new (lo := w0.heap.size) (k := 1) (c := ns.length) hA773x (by omega) (by rw [flat_length enN_len]; simp) (by omega)
            have hF777 := hx774.e hF763 (Nat.le_refl _)
            have hF778 := hF764.ext hx774
            have hF779 := hF765.ext hx774
            have hF780 := hO761.ext hx774
            have hE781 : Below w0.heap.size w0 w772 := hx774.e hE766 (Nat.le_refl _)
            have hz782 := hE781.le
            have hs783 := hx774.size
            have hS784 := hS769.trans (hx774.mono hS769.size)
            refine ⟨fun _ => hS784, ?_⟩
            have hl785 := hO775.lo
            have hl786 := hO775.lt
            refine d_q (v := .slice ((some ⟨w758.heap.size, 0, none⟩)) ns.length ns.length) rfl rfl (fun _ => x_assign rfl) ?_
            refine d_q (v := .slice ((some ⟨w716.heap.size, 0, none⟩)) ns.length ns.length) rfl rfl (fun _ => x_assign rfl) ?_
            refine d_q (v := .slice ((some ⟨w21.heap.size, 0, none⟩)) ns.length ns.length) rfl rfl (fun _ => x_assign rfl) ?_
            refine d_done ?_
            refine kn18 _ (w704.heap.size, w758.heap.size, w716.heap.size, w21.heap.size) _ ⟨rfl, rfl, rfl, rfl, rfl, rfl, rfl, trivial⟩ ⟨hF777, ?_⟩
            try dsimp only
            exact ⟨by omega, by omega, by omega, by omega, by omega, by omega, by omega, by omega, by omega, by omega, by omega, by omega, by omega, by omega, hF779, hO775, hF780, hF778⟩
        ·
          refine id (d_e' rfl rfl (e_makeSlice T.sl38 rfl rfl (by omega) (by omega) ?_))
          intro w787 hA788
          have hx789 := hA788.ext
          have hs791 := hA788.size
          have hA788x : Al w704 w787 (.cells (flat enN (List.replicate ns.length (0 : Nat))).toArray 3) := by rw [flat_repN]; exact hA788
          have hO790 := OB.new (lo := w0.heap.size) (k := 1) (c := ns.length) hA788x (by omega) (by rw [flat_length enN_len]; simp) (by omega)
          have hF792 := hx789.e hF709 (Nat.le_refl _)
          have hF793 := hO707.ext hx789
          have hE794 : Below w0.heap.size w0 w787 := hx789.e hE710 (Nat.le_refl _)
          have hz795 := hE794.le
          have hs796 := hx789.size
          have hS797 := hS713.trans (hx789.mono hS713.size)
          refine ⟨fun _ => hS797, ?_⟩
          have hl798 := hO790.lo
          have hl799 := hO790.lt
          refine d_two ?_ ?_
          ·
            refine id (d_e' rfl rfl (e_makeSlice T.sl38 rfl rfl (by omega) (by omega) ?_))
            intro w800 hA801
            have hx802 := hA801.ext
            have hs804 := hA801.size
            have hA801x : Al w787 w800 (.cells (flat enI (List.replicate ns.length (0 : Int))).toArray 3) := by rw [flat_repI]; exact hA801
            have hO803 := OB.new (lo := w0.heap.size) (k := 1) (c := ns.length) hA801x (by omega) (by rw [flat_length enI_len]; simp) (by omega)
            have hF805 := hx802.e hF792 (Nat.le_refl _)
            have hF806 := hF793.ext hx802
            have hF807 := hO790.ext hx802
            have hE808 : Below w0.heap.size w0 w800 := hx802.e hE794 (Nat.le_refl _)
            have hz809 := hE808.le
            have hs810 := hx802.size
            have hS811 := hS797.trans (hx802.mono hS797.size)
            refine ⟨fun _ => hS811, ?_⟩
            have hl812 := hO803.lo
            have hl813 := hO803.lt
            refine d_q (v := .slice ((some ⟨w787.heap.size, 0, none⟩)) ns.length ns.length) rfl rfl (fun _ => x_assign rfl) ?_
            refine d_q (v := .slice ((some ⟨w704.heap.size, 0, none⟩)) ns.length ns.length) rfl rfl (fun _ => x_assign rfl) ?_
            refine d_e (by decide) (d_e' rfl rfl (e_makeSlice T.sl38 rfl rfl (by omega) (by omega) ?_))
            intro w814 hA815
            have hx816 := hA815.ext
            have hs818 := hA815.size
            have hA815x : Al w800 w814 (.cells (flat enN (List.replicate ns.length (0 : Nat))).toArray 3) := by rw [flat_repN]; exact hA815
            have hO817 := OB.new (lo := w0.heap.size) (k := 1) (c := ns.length) hA815x (by omega) (by rw [flat_length enN_len]; simp) (by omega)
            have hF819 := hx816.e hF805 (Nat.le_refl _)
            have hF820 := hF806.ext hx816
            have hF821 := hF807.ext hx816
            have hF822 := hO803.ext hx816
            have hE823 : Below w0.heap.size w0 w814 := hx816.e hE808 (Nat.le_refl _)
            have hz824 := hE823.le
            have hs825 := hx816.size
            have hS826 := hS811.trans (hx816.mono hS811.size)
            refine ⟨fun _ => hS826, ?_⟩
            have hl827 := hO817.lo
            have hl828 := hO817.lt
            refine d_q (v := .slice ((some ⟨w800.heap.size, 0, none⟩)) ns.length ns.length) rfl rfl (fun _ => x_assign rfl) ?_
            refine d_q (v := .slice ((some ⟨w21.heap.size, 0, none⟩)) ns.length ns.length) rfl rfl (fun _ => x_assign rfl) ?_
            refine d_done ?_
            refine kn18 _ (w787.heap.size, w704.heap.size, w800.heap.size, w21.heap.size) _ ⟨rfl, rfl, rfl, rfl, rfl, rfl, rfl, trivial⟩ ⟨hF819, ?_⟩
            try dsimp only
            exact ⟨by omega, by omega, by omega, by omega, by omega, by omega, by omega, by omega, by omega, by omega, by omega, by omega, by omega, by omega, hF822, hF821, hO817, hF820⟩
          ·
            refine id (d_e' rfl rfl (e_makeSlice T.sl38 rfl rfl (by omega) (by omega) ?_))
            intro w829 hA830
            have hx831 := hA830.ext
            have hs833 := hA830.size
            have hA830x : Al w787 w829 (.cells (flat enN (List.replicate ns.length (0 : Nat))).toArray 3) := by rw [flat_repN]; exact hA830
            have hO832 := OB.new (lo := w0.heap.size) (k := 1) (c := ns.length) hA830x (by omega) (by rw [flat_length enN_len]; simp) (by omega)
            have hF834 := hx831.e hF792 (Nat.le_refl _)
            have hF835 := hF793.ext hx831
            have hF836 := hO790.ext hx831
            have hE837 : Below w0.heap.size w0 w829 := hx831.e hE794 (Nat.le_refl _)
            have hz838 := hE837.le
            have hs839 := hx831.size
            have hS840 := hS797.trans (hx831.mono hS797.size)
            refine ⟨fun _ => hS840, ?_⟩
            have hl841 := hO832.lo
            have hl842 := hO832.lt
            refine d_e (by decide) (d_e' rfl rfl (e_makeSlice T.sl38 rfl rfl (by omega) (by omega) ?_))
            intro w843 hA844
            have hx845 := hA844.ext
            have hs847 := hA844.size
            have hA844x : Al w829 w843 (.cells (flat enI (List.replicate ns.length (0 : Int))).toArray 3) := by rw [flat_repI]; exact hA844
            have hO846 := OB.new (lo := w0.heap.size) (k := 1) (c := ns.length) hA844x (by omega) (by rw [flat_length enI_len]; simp) (by omega)
            have hF848 := hx845.e hF834 (Nat.le_refl _)
            have hF849 := hF835.ext hx845
            have hF850 := hF836.ext hx845
            have hF851 := hO832.ext hx845
            have hE852 : Below w0.heap.size w0 w843 := hx845.e hE837 (Nat.le_refl _)
            have hz853 := hE852.le
            have hs854 := hx845.size
            have hS855 := hS840.trans (hx845.mono hS840.size)
            refine ⟨fun _ => hS855, ?_⟩
            have hl856 := hO846.lo
            have hl857 := hO846.lt
            refine d_q (v := .slice ((some ⟨w829.heap.size, 0, none⟩)) ns.length ns.length) rfl rfl (fun _ => x_assign rfl) ?_
            refine d_q (v := .slice ((some ⟨w704.heap.size, 0, none⟩)) ns.length ns.length) rfl rfl (fun _ => x_assign rfl) ?_
            refine d_q (v := .slice ((some ⟨w787.heap.size, 0, none⟩)) ns.length ns.length) rfl rfl (fun _ => x_assign rfl) ?_
            refine d_q (v := .slice ((some ⟨w21.heap.size, 0, none⟩)) ns.length ns.length) rfl rfl (fun _ => x_assign rfl) ?_
            refine d_done ?_
            refine kn18 _ (w829.heap.size, w704.heap.size, w787.heap.size, w21.heap.size) _ ⟨rfl, rfl, rfl, rfl, rfl, rfl, rfl, trivial⟩ ⟨hF848, ?_⟩
            try dsimp only
            exact ⟨by omega, by omega, by omega, by omega, by omega, by omega, by omega, by omega, by omega, by omega, by omega, by omega, by omega, by omega, hO846, hF850, hF851, hF849⟩
        ·
          refine id (d_e' rfl rfl (e_makeSlice T.sl38 rfl rfl (by omega) (by omega) ?_))
          intro w858 hA859
          have hx860 := hA859.ext
          have hs862 := hA859.size
          have hA859x : Al w704 w858 (.cells (flat enN (List.replicate ns.length (0 : Nat))).toArray 3) := by rw [flat_repN]; exact hA859
          have hO861 := OB.new (lo := w0.heap.size) (k := 1) (c := ns.length) hA859x (by omega) (by rw [flat_length enN_len]; simp) (by omega)
          have hF863 := hx860.e hF709 (Nat.le_refl _)
          have hF864 := hO707.ext hx860
          have hE865 : Below w0.heap.size w0 w858 := hx860.e hE710 (Nat.le_refl _)
          have hz866 := hE865.le
          have hs867 := hx860.size
          have hS868 := hS713.trans (hx860.mono hS713.size)
          refine ⟨fun _ => hS868, ?_⟩
          have hl869 := hO861.lo
          have hl870 := hO861.lt
          refine d_two ?_ ?_
          ·
            refine id (d_e' rfl rfl (e_makeSlice T.sl38 rfl rfl (by omega) (by omega) ?_))
            intro w871 hA872
            have hx873 := hA872.ext
            have hs875 := hA872.size
            have hA872x : Al w858 w871 (.cells (flat enI (List.replicate ns.length (0 : Int))).toArray 3) := by rw [flat_repI]; exact hA872
            have hO874 := OB.new (lo := w0.heap.size) (k := 1) (c := ns.length) hA872x (by omega) (by rw [flat_length enI_len]; simp) (by omega)
            have hF876 := hx873.e hF863 (Nat.le_refl _)
            have hF877 := hF864.ext hx873
            have hF878 := hO861.ext hx873
            have hE879 : Below w0.heap.size w0 w871 := hx873.e hE865 (Nat.le_refl _)
            have hz880 := hE879.le
            have hs881 := hx873.size
            have hS882 := hS868.trans (hx873.mono hS868.size)
            refine ⟨fun _ => hS882, ?_⟩
            have hl883 := hO874.lo
            have hl884 := hO874.lt
            refine d_q (v := .slice ((some ⟨w858.heap.size, 0, none⟩)) ns.length ns.length) rfl rfl (fun _ => x_assign rfl) ?_
            refine d_e (by decide) (d_e' rfl rfl (e_makeSlice T.sl38 rfl rfl (by omega) (by omega) ?_))
            intro w885 hA886
            have hx887 := hA886.ext
            have hs889 := hA886.size
            have hA886x : Al w871 w885 (.cells (flat enN (List.replicate ns.length (0 : Nat))).toArray 3) := by rw [flat_repN]; exact hA886
            have hO888 := OB.new (lo := w0.heap.size) (k := 1) (c := ns.length) hA886x (by omega) (by rw [flat_length enN_len]; simp) (by omega)
            have hF890 := hx887.e hF876 (Nat.le_refl _)
            have hF891 := hF877.ext hx887
            have hF892 := hF878.ext hx887
            have hF893 := hO874.ext hx887
            have hE894 : Below w0.heap.size w0 w885 := hx887.e hE879 (Nat.le_refl _)
            have hz895 := hE894.le
            have hs896 := hx887.size
            have hS897 := hS882.trans (hx887.mono hS882.size)
            refine ⟨fun _ => hS897, ?_⟩
            have hl898 := hO888.lo
            have hl899 := hO888.lt
            refine d_q (v := .slice ((some ⟨w871.heap.size, 0, none⟩)) ns.length ns.length) rfl rfl (fun _ => x_assign rfl) ?_
            refine d_q (v := .slice ((some ⟨w704.heap.size, 0, none⟩)) ns.length ns.length) rfl rfl (fun _ => x_assign rfl) ?_
            refine d_q (v := .slice ((some ⟨w21.heap.size, 0, none⟩)) ns.length ns.length) rfl rfl (fun _ => x_assign rfl) ?_
            refine d_done ?_
            refine kn18 _ (w858.heap.size, w871.heap.size, w704.heap.size, w21.heap.size) _ ⟨rfl, rfl, rfl, rfl, rfl, rfl, rfl, trivial⟩ ⟨hF890, ?_⟩
            try dsimp only
            exact ⟨by omega, by omega, by omega, by omega, by omega, by omega, by omega, by omega, by omega, by omega, by omega, by omega, by omega, by omega, hF893, hO888, hF892, hF891⟩
          ·
            refine id (d_e' rfl rfl (e_makeSlice T.sl38 rfl rfl (by omega) (by omega) ?_))
            intro w900 hA901
            have hx902 := hA901.ext
            have hs904 := hA901.size
            have hA901x : Al w858 w900 (.cells (flat enN (List.replicate ns.length (0 : Nat))).toArray 3) := by rw [flat_repN]; exact hA901
            have hO903 := OB.new (lo := w0.heap.size) (k := 1) (c := ns.length) hA901x (by omega) (by rw [flat_length enN_len]; simp) (by omega)
            have hF905 := hx902.e hF863 (Nat.le_refl _)
            have hF906 := hF864.ext hx902
            have hF907 := hO861.ext hx902
            have hE908 : Below w0.heap.size w0 w900 := hx902.e hE865 (Nat.le_refl _)
            have hz909 := hE908.le
            have hs910 := hx902.size
            have hS911 := hS868.trans (hx902.mono hS868.size)
            refine ⟨fun _ => hS911, ?_⟩
            have hl912 := hO903.lo
            have hl913 := hO903.lt
            refine d_e (by decide) (d_e' rfl rfl (e_makeSlice T.sl38 rfl rfl (by omega) (by omega) ?_))
            intro w914 hA915
            have hx916 := hA915.ext
            have hs918 := hA915.size
            have hA915x : Al w900 w914 (.cells (flat enI (List.replicate ns.length (0 : Int))).toArray 3) := by rw [flat_repI]; exact hA915
            have hO917 := OB.new (lo := w0.heap.size) (k := 1) (c := ns.length) hA915x (by omega) (by rw [flat_length enI_len]; simp) (by omega)
            have hF919 := hx916.e hF905 (Nat.le_refl _)
            have hF920 := hF906.ext hx916
            have hF921 := hF907.ext hx916
            have hF922 := hO903.ext hx916
            have hE923 : Below w0.heap.size w0 w914 := hx916.e hE908 (Nat.le_refl _)
            have hz924 := hE923.le
            have hs925 := hx916.size
            have hS926 := hS911.trans (hx916.mono hS911.size)
            refine ⟨fun _ => hS926, ?_⟩
            have hl927 := hO917.lo
            have hl928 := hO917.lt
            refine d_q (v := .slice ((some ⟨w900.heap.size, 0, none⟩)) ns.length ns.length) rfl rfl (fun _ => x_assign rfl) ?_
            refine d_q (v := .slice ((some ⟨w858.heap.size, 0, none⟩)) ns.length ns.length) rfl rfl (fun _ => x_assign rfl) ?_
            refine d_q (v := .slice ((some ⟨w704.heap.size, 0, none⟩)) ns.length ns.length) rfl rfl (fun _ => x_assign rfl) ?_
            refine d_q (v := .slice ((some ⟨w21.heap.size, 0, none⟩)) ns.length ns.length) rfl rfl (fun _ => x_assign rfl) ?_
            refine d_done ?_
            refine kn18 _ (w900.heap.size, w858.heap.size, w704.heap.size, w21.heap.size) _ ⟨rfl, rfl, rfl, rfl, rfl, rfl, rfl, trivial⟩ ⟨hF919, ?_⟩
            try dsimp only
            exact ⟨by omega, by omega, by omega, by omega, by omega, by omega, by omega, by omega, by omega, by omega, by omega, by omega, by omega, by omega, hO917, hF922, hF921, hF920⟩
    ·
      rintro τ929 ⟨bp, bl, bs, bn⟩ w930 ⟨hx931, ⟨hbA0, hbA1, hbA2, hbA3, hbA4, hbA5, hbA6, hbA7, hbD0, hbD1, hbD2, hbD3, hbD4, hbD5, hCbp, hCbl, hCbs, hCbn⟩⟩
      try dsimp only at hbA0 hbA1 hbA2 hbA3 hbA4 hbA5 hbA6 hbA7 hbD0 hbD1 hbD2 hbD3 hbD4 hbD5 hCbp hCbl hCbs hCbn
      have hE932 : Below w0.heap.size w0 w930 := hx931.e hE0 (Nat.le_refl _)
      have hz933 := hE932.le
      have hs934 := hx931.size
      have hl935 := hCbp.lo
      have hl936 := hCbp.lt
      have hl937 := hCbl.lo
      have hl938 := hCbl.lt
      have hl939 := hCbs.lo
      have hl940 := hCbs.lt
      have hl941 := hCbn.lo
      have hl942 := hCbn.lt
      refine seqK fun Q943 kn944 kr945 ke946 => ?_
      refine region ?_
      refine st_q (v := .slice none 0 0) (x_assign rfl) ?_
      refine st_q (v := .slice none 0 0) (x_assign rfl) ?_
      refine st_nil ?_
      refine kn944 _ _ ?_
      refine seqK fun Q947 kn948 kr949 ke950 => ?_
      refine region ?_
      refine st_q (v := .int .i64 ((0 : Nat) : Int)) (x_assign rfl) ?_
      refine st_q (v := .int .i64 ((0 : Nat) : Int)) (x_assign rfl) ?_
      refine st_q (v := .int .i64 (-1)) (x_assign rfl) ?_
      refine st_q (v := .int .i64 ((0 : Nat) : Int)) (x_assign rfl) ?_
      refine st_nil ?_
      refine kn948 _ _ ?_
      refine seqK fun Q951 kn952 kr953 ke954 => ?_
      refine seqK fun Q955 kn956 kr957 ke958 => ?_
      refine region ?_
      refine st_q (v := .slice ((some ⟨bp, 0, none⟩)) ns.length ns.length) (x_move rfl) ?_
      refine st_q (v := .int .i64 ((ns.length : Nat) : Int)) (x_lenSl rfl Try.underlying38 rfl) ?_
      refine st_q (v := .int .i64 ((0 : Nat) : Int)) (x_move rfl) ?_
      refine st_nil ?_
      refine kn956 _ _ ?_
      refine blockK fun Q959 kn960 kr961 kx962 kb963 => ?_
      refine loopK (α := Nat × (List Int)) (fun x => [(0, .pointer (some ⟨g, 0, none⟩)), (1, .slice a es.length ca), (6, .int .i64 ((ns.length : Nat) : Int)), (7, .slice ((some ⟨bp, 0, none⟩)) ns.length ns.length), (8, .slice ((some ⟨bl, 0, none⟩)) ns.length ns.length), (9, .slice ((some ⟨bs, 0, none⟩)) ns.length ns.length), (10, .slice ((some ⟨bn, 0, none⟩)) ns.length ns.length), (11, .slice none 0 0), (12, .slice none 0 0), (13, .int .i64 ((0 : Nat) : Int)), (14, .int .i64 ((0 : Nat) : Int)), (15, .int .i64 (-1)), (16, .int .i64 ((0 : Nat) : Int)), (34, .int .i64 ((ns.length : Nat) : Int)), (35, .int .i64 ((x.1 : Nat) : Int))]) (fun x w964 => Below w0.heap.size w0 w964 ∧ x.1 ≤ ns.length ∧ x.2.length = ns.length ∧ (∀ j, j < x.1 → el x.2 j = -1) ∧ OB w964.heap w0.heap.size 3 1 bp ns.length (flat enI x.2) ∧ OB w964.heap w0.heap.size 3 1 bl ns.length (flat enN (List.replicate ns.length (0 : Nat))) ∧ OB w964.heap w0.heap.size 3 1 bs ns.length (flat enN (List.replicate ns.length (0 : Nat))) ∧ OB w964.heap w0.heap.size 3 1 bn ns.length (flat enN (List.replicate ns.length (0 : Nat)))) (fun x => ns.length - x.1) (0, (List.replicate ns.length (0 : Int))) ⟨rfl, rfl, rfl, rfl, rfl, rfl, rfl, rfl, rfl, rfl, rfl, rfl, rfl, rfl, rfl, trivial⟩ ?_ ?_
      ·
        refine ⟨hE932, ?_⟩
        try dsimp only
        exact ⟨Nat.zero_le _, by simp, fun j hj => by omega, hCbp, hCbl, hCbs, hCbn⟩
      ·
        rintro τ965 ⟨i, P⟩ w966 ⟨hx967, ⟨hi, hPl, hPm, hOp, hObl, hObs, hObn⟩⟩
        try dsimp only at hi hPl hPm hOp hObl hObs hObn
        have hz968 := hx967.le
        intro Q969 kn970 kr971 ke972
        have hl973 := hOp.lo
        have hl974 := hOp.lt
        have hl975 := hObl.lo
        have hl976 := hObl.lt
        have hl977 := hObs.lo
        have hl978 := hObs.lt
        have hl979 := hObn.lo
        have hl980 := hObn.lt
        refine seqK fun Q981 kn982 kr983 ke984 => ?_
        refine region ?_
        refine st_q (v := .bool (decide (i < ns.length))) (x_lssN rfl rfl) ?_
        refine st_nil ?_
        refine kn982 _ _ ?_
        refine seqK fun Q985 kn986 kr987 ke988 => ?_
        refine cnd (p := i < ns.length) rfl (fun h989 => ?_) (fun h989 => ?_)
        ·
          refine skip ?_
          refine kn986 _ _ ?_
          refine seqK fun Q990 kn991 kr992 ke993 => ?_
          refine blockK fun Q994 kn995 kr996 kx997 kb998 => ?_
          refine seqK fun Q999 kn1000 kr1001 ke1002 => ?_
          refine region ?_
          refine st_q (v := .int .i64 ((i : Nat) : Int)) (x_move rfl) ?_
          refine st_q (v := .int .i64 ((i : Nat) : Int)) (x_assign rfl) ?_
          refine st_nil ?_
          refine kn1000 _ _ ?_
          refine region ?_
          refine st_q (v := .slice ((some ⟨bp, 0, none⟩)) ns.length ns.length) (x_move rfl) ?_
          refine st_q (v := .int .i64 ((i : Nat) : Int)) (x_move rfl) ?_
          refine st_q (v := .pointer (some ⟨bp, 0 + i * 1, none⟩)) (x_index T.sl38 rfl rfl (by omega)) ?_
          refine st_s (e_stO (v := .int .i64 (-1)) (u := -1) enI_len T.sz3 rfl rfl rfl hOp (by first | omega | (rw [List.length_set]; omega)) (by rfl) ?_)
          intro w1003 _ hP1004 hB1005
          have hs1006 := hP1004.size
          have hF1007 := hObl.pt hP1004 (by omega)
          have hF1008 := hObs.pt hP1004 (by omega)
          have hF1009 := hObn.pt hP1004 (by omega)
          have hE1010 : Below w0.heap.size w0 w1003 := hP1004.below hx967 (by omega)
          have hz1011 := hE1010.le
          refine st_nil ?_
          refine kn995 _ _ ?_
          refine kn991 _ _ ?_
          refine region ?_
          refine st_q (v := .int .i64 (((i + 1) : Nat) : Int)) (x_addN rfl rfl (by omega)) ?_
          refine st_q (v := .int .i64 (((i + 1) : Nat) : Int)) (x_move rfl) ?_
          refine st_nil ?_
          refine kn970 _ ((i + 1), (P.set i (-1))) _ ⟨rfl, rfl, rfl, rfl, rfl, rfl, rfl, rfl, rfl, rfl, rfl, rfl, rfl, rfl, rfl, trivial⟩ ⟨hE1010, ?_⟩ ?_
          ·
            try dsimp only
            refine ⟨by omega, by rw [List.length_set]; exact hPl, fun j hj => ?_, hB1005, hF1007, hF1008, hF1009⟩
            by_cases e : i = j
            · subst e; rw [el_set_same (by omega)]
            · rw [el_set_ne e]; exact hPm j (by omega)
          ·
            (try dsimp only); omega
        ·
          refine exit ?_
          refine ke988 _ _ _ ?_
          refine ke972 _ _ _ ?_
          refine kb963 _ _ ?_
          refine kn952 _ _ ?_
          refine kn8 _ (bp, bl, bs, bn, w966.heap.size, P, (List.replicate ns.length (0 : Nat)), (List.replicate ns.length (0 : Nat)), (List.replicate ns.length (0 : Nat)), [], [], 0, 0, (-1), 0, .slice none 0 0, .slice none 0 0) _ ⟨rfl, rfl, rfl, rfl, rfl, rfl, rfl, rfl, rfl, rfl, rfl, rfl, rfl, trivial⟩ ⟨hx967, ?_⟩
          try dsimp only
          obtain rfl : i = ns.length := by omega
          exact ⟨by omega, by omega, by omega, by omega, by omega, by omega, by omega, by omega, by omega, by omega, by omega, by omega, by omega, by omega, Nat.le_refl _, hOp, hObl, hObs, hObn, Own.nil _ _ _ _, Own.nil _ _ _ _, fun b hb => by simp [Value.ownBlock] at hb, LI.start _ _ hPl hPm⟩
  ·
    rintro τ1012 ⟨bp, bl, bs, bn, lo1, P, Lo, Se, Nx, W, O, cnt, pts, rt, v, vw, vo⟩ w1013 ⟨hx1014, ⟨hbA0, hbA1, hbA2, hbA3, hbA4, hbA5, hbA6, hbA7, hbD0, hbD1, hbD2, hbD3, hbD4, hbD5, hlo, hOp, hOl, hOs, hOn, hW, hO, hne, hL⟩⟩
    try dsimp only at hbA0 hbA1 hbA2 hbA3 hbA4 hbA5 hbA6 hbA7 hbD0 hbD1 hbD2 hbD3 hbD4 hbD5 hlo hOp hOl hOs hOn hW hO hne hL
    have hz1015 := hx1014.le
    intro Z1021 Q1016 kn1017 kg1018 kr1019 ke1020
    obtain ⟨hlp, hll, hls, hlx, hwl, hol, hcn, hpn, hq⟩ := LI.lens0 hL
    have hq2 := hq.2
    have hq1 := hq.1
    have hl1023 := hOp.lo
    have hl1024 := hOp.lt
    have hl1025 := hOl.lo
    have hl1026 := hOl.lt
    have hl1027 := hOs.lo
    have hl1028 := hOs.lt
    have hl1029 := hOn.lo
    have hl1030 := hOn.lt
    obtain ⟨a1031, c1032, rfl, hm1033, hm1034⟩ := hW.src.form
    obtain ⟨a1035, c1036, rfl, hm1037, hm1038⟩ := hO.src.form
    refine seqG fun Q1039 kn1040 kr1041 ke1042 kg1043 => ?_
    refine region ?_
    refine st_q (v := .int .i64 rt) (x_move rfl) ?_
    obtain ⟨r1044, hrr1044⟩ : ∃ r : Nat, rt + 1 = ((r : Nat) : Int) := ⟨(rt + 1).toNat, by omega⟩
    refine st_q (v := .int .i64 ((r1044 : Nat) : Int)) (x_addE rfl rfl ⟨by omega, by omega⟩ hrr1044) ?_
    refine st_q (v := .int .i64 ((r1044 : Nat) : Int)) (x_assign rfl) ?_
    refine st_nil ?_
    refine kn1040 _ _ ?_
    refine seqG fun Q1045 kn1046 kr1047 ke1048 kg1049 => ?_
    refine seqG fun Q1050 kn1051 kr1052 ke1053 kg1054 => ?_
    refine region ?_
    refine st_q (v := .int .i64 ((r1044 : Nat) : Int)) (x_move rfl) ?_
    refine st_q (v := .int .i64 ((ns.length : Nat) : Int)) (x_move rfl) ?_
    refine st_q (v := .bool (decide (ns.length ≤ r1044))) (x_geqN rfl rfl) ?_
    refine st_nil ?_
    refine kn1051 _ _ ?_
    refine cnd (p := ns.length ≤ r1044) rfl (fun h1055 => ?_) (fun h1055 => ?_)
    ·
      refine seqG fun Q1056 kn1057 kr1058 ke1059 kg1060 => ?_
      refine region ?_
      refine st_q (v := .slice ((some ⟨bp, 0, none⟩)) ns.length ns.length) (x_move rfl) ?_
      refine st_q (v := .int .i64 ((pts : Nat) : Int)) (x_move rfl) ?_
      refine st_q (v := .slice ((some ⟨bp, 0, none⟩)) ns.length ns.length) (x_assign rfl) ?_
      refine st_q (v := .int .i64 ((pts : Nat) : Int)) (x_assign rfl) ?_
      refine st_nil ?_
      refine kn1057 _ _ ?_
      refine ret ?_
      refine kr1047 _ _ ?_
      refine kr1019 _ _ ?_
      refine leave2 (P := Try.prog) (fn := Try.f36) (t := 4) (u := 5) (v := .slice ((some ⟨bp, 0, none⟩)) ns.length ns.length) (v' := .int .i64 ((pts : Nat) : Int)) rfl rfl rfl ?_
      have hK := hL.done (by omega)
      have hnn : ∀ x ∈ P, 0 ≤ x := fun x hx => by
        obtain ⟨i, hi, rfl⟩ := List.getElem_of_mem hx
        have := (hK.pos i (by omega)).1
        rwa [el_eq hi] at this
      have hOO := hOp.own (Nat.le_refl _) (by rw [flat_length enI_len, hlp])
      rw [enI_enN hnn] at hOO
      exact ⟨_, P.map Int.toNat, pts, rfl, hx1014, by rw [List.length_map]; exact hlp, Knotted.nat hlp (outN_lt hends) hK, hpn, hOO⟩
    ·
      refine skip ?_
      refine kn1046 _ _ ?_
      refine seqG fun Q1061 kn1062 kr1063 ke1064 kg1065 => ?_
      refine seqG fun Q1066 kn1067 kr1068 ke1069 kg1070 => ?_
      refine region ?_
      refine st_q (v := .slice ((some ⟨bs, 0, none⟩)) ns.length ns.length) (x_move rfl) ?_
      refine st_q (v := .int .i64 ((r1044 : Nat) : Int)) (x_move rfl) ?_
      refine st_q (v := .pointer (some ⟨bs, 0 + r1044 * 1, none⟩)) (x_index T.sl38 rfl rfl (by omega)) ?_
      refine st_q (v := .int .i64 (((el Se r1044) : Nat) : Int)) (x_load1 T.na3 rfl (hOs.cells.elem enN_len (i := r1044) (by omega))) ?_
      refine st_q (v := .bool (decide (0 < ((el Se r1044))))) (x_gtrN rfl rfl) ?_
      refine st_nil ?_
      refine kn1067 _ _ ?_
      refine cnd (p := 0 < ((el Se r1044))) rfl (fun h1071 => ?_) (fun h1071 => ?_)
      ·
        refine gotoS ?_
        refine kg1065 _ _ _ ?_
        refine kg1018 0 _ (bp, bl, bs, bn, lo1, P, Lo, Se, Nx, W, O, cnt, pts, (((r1044 : Nat) : Int)), v, .slice a1031 W.length c1032, .slice a1035 O.length c1036) _ (by decide) ⟨rfl, rfl, rfl, rfl, rfl, rfl, rfl, rfl, rfl, rfl, rfl, rfl, rfl, trivial⟩ ⟨hx1014, ?_⟩ ?_
        ·
          try dsimp only
          exact ⟨by omega, by omega, by omega, by omega, by omega, by omega, by omega, by omega, by omega, by omega, by omega, by omega, by omega, by omega, by omega, hOp, hOl, hOs, hOn, hW, hO, hne, (hL.again hrr1044 (by omega) (by assumption) _).1⟩
        ·
          try dsimp only
          exact (hL.again hrr1044 (by omega) (by assumption) 0).2
      ·
        refine skip ?_
        refine kn1062 _ _ ?_
        refine seqG fun Q1072 kn1073 kr1074 ke1075 kg1076 => ?_
        refine region ?_
        refine st_q (v := .int .i64 ((r1044 : Nat) : Int)) (x_move rfl) ?_
        refine st_q (v := .int .i64 ((r1044 : Nat) : Int)) (x_assign rfl) ?_
        refine st_nil ?_
        refine kn1073 _ _ ?_
        refine kn1017 _ (bp, bl, bs, bn, lo1, P, Lo, Se, Nx, W, O, cnt, pts, (((r1044 : Nat) : Int)), r1044, .slice a1031 W.length c1032, .slice a1035 O.length c1036) _ ⟨rfl, rfl, rfl, rfl, rfl, rfl, rfl, rfl, rfl, rfl, rfl, rfl, rfl, trivial⟩ ⟨hx1014, ?_⟩ ?_
        ·
          try dsimp only
          exact ⟨by omega, by omega, by omega, by omega, by omega, by omega, by omega, by omega, by omega, by omega, by omega, by omega, by omega, by omega, by omega, hOp, hOl, hOs, hOn, hW, hO, hne, (hL.root hrr1044 (by omega) (by assumption)).1⟩
        ·
          try dsimp only
          exact (hL.root hrr1044 (by omega) (by assumption)).2
  ·
    rintro τ1077 ⟨bp, bl, bs, bn, lo1, P, Lo, Se, Nx, W, O, cnt, pts, rt, v, vw, vo⟩ w1078 ⟨hx1079, ⟨hbA0, hbA1, hbA2, hbA3, hbA4, hbA5, hbA6, hbA7, hbD0, hbD1, hbD2, hbD3, hbD4, hbD5, hlo, hOp, hOl, hOs, hOn, hW, hO, hne, hL⟩⟩
    try dsimp only at hbA0 hbA1 hbA2 hbA3 hbA4 hbA5 hbA6 hbA7 hbD0 hbD1 hbD2 hbD3 hbD4 hbD5 hlo hOp hOl hOs hOn hW hO hne hL
    have hz1080 := hx1079.le
    intro Z1086 Q1081 kn1082 kg1083 kr1084 ke1085
    obtain ⟨hlp, hll, hls, hlx, hwl, hol, hcn, hpn, hq⟩ := LI.lens1 hL
    have hl1088 := hOp.lo
    have hl1089 := hOp.lt
    have hl1090 := hOl.lo
    have hl1091 := hOl.lt
    have hl1092 := hOs.lo
    have hl1093 := hOs.lt
    have hl1094 := hOn.lo
    have hl1095 := hOn.lt
    obtain ⟨a1096, c1097, rfl, hm1098, hm1099⟩ := hW.src.form
    obtain ⟨a1100, c1101, rfl, hm1102, hm1103⟩ := hO.src.form
    refine seqG fun Q1104 kn1105 kr1106 ke1107 kg1108 => ?_
    refine region ?_
    refine st_q (v := .int .i64 ((cnt : Nat) : Int)) (x_move rfl) ?_
    refine st_q (v := .int .i64 (((cnt + 1) : Nat) : Int)) (x_addN rfl rfl (by omega)) ?_
    refine st_q (v := .int .i64 (((cnt + 1) : Nat) : Int)) (x_assign rfl) ?_
    refine st_nil ?_
    refine kn1105 _ _ ?_
    refine seqG fun Q1109 kn1110 kr1111 ke1112 kg1113 => ?_
    refine region ?_
    refine st_q (v := .slice ((some ⟨bs, 0, none⟩)) ns.length ns.length) (x_move rfl) ?_
    refine st_q (v := .int .i64 ((v : Nat) : Int)) (x_move rfl) ?_
    refine st_q (v := .slice ((some ⟨bl, 0, none⟩)) ns.length ns.length) (x_move rfl) ?_
    refine st_q (v := .int .i64 ((v : Nat) : Int)) (x_move rfl) ?_
    refine st_q (v := .int .i64 (((cnt + 1) : Nat) : Int)) (x_move rfl) ?_
    refine st_q (v := .int .i64 (((cnt + 1) : Nat) : Int)) (x_move rfl) ?_
    refine st_q (v := .pointer (some ⟨bs, 0 + v * 1, none⟩)) (x_index T.sl38 rfl rfl (by omega)) ?_
    refine st_s (e_stO (v := .int .i64 (((cnt + 1) : Nat) : Int)) (u := (cnt + 1)) enN_len T.sz3 rfl rfl rfl hOs (by first | omega | (rw [List.length_set]; omega)) (by rfl) ?_)
    intro w1114 _ hP1115 hB1116
    have hs1117 := hP1115.size
    have hF1118 := hOp.pt hP1115 (by omega)
    have hF1119 := hOl.pt hP1115 (by omega)
    have hF1120 := hOn.pt hP1115 (by omega)
    have hF1121 := hW.pt hP1115 (by first | (intro e; have := (hW.lt e).1; clear e; omega) | (simp [Value.ownBlock]; omega))
    have hF1122 := hO.pt hP1115 (by first | (intro e; have := (hO.lt e).1; clear e; omega) | (simp [Value.ownBlock]; omega))
    have hE1123 : Below w0.heap.size w0 w1114 := hP1115.below hx1079 (by omega)
    have hz1124 := hE1123.le
    refine st_q (v := .pointer (some ⟨bl, 0 + v * 1, none⟩)) (x_index T.sl38 rfl rfl (by omega)) ?_
    refine st_s (e_stO (v := .int .i64 (((cnt + 1) : Nat) : Int)) (u := (cnt + 1)) enN_len T.sz3 rfl rfl rfl hF1119 (by first | omega | (rw [List.length_set]; omega)) (by rfl) ?_)
    intro w1125 _ hP1126 hB1127
    have hs1128 := hP1126.size
    have hF1129 := hF1118.pt hP1126 (by omega)
    have hF1130 := hF1120.pt hP1126 (by omega)
    have hF1131 := hF1121.pt hP1126 (by first | (intro e; have := (hF1121.lt e).1; clear e; omega) | (simp [Value.ownBlock]; omega))
    have hF1132 := hF1122.pt hP1126 (by first | (intro e; have := (hF1122.lt e).1; clear e; omega) | (simp [Value.ownBlock]; omega))
    have hF1133 := hB1116.pt hP1126 (by omega)
    have hE1134 : Below w0.heap.size w0 w1125 := hP1126.below hE1123 (by omega)
    have hz1135 := hE1134.le
    refine st_nil ?_
    refine kn1110 _ _ ?_
    refine seqG fun Q1136 kn1137 kr1138 ke1139 kg1140 => ?_
    refine region ?_
    refine st_q (v := .slice a1096 W.length c1097) (x_move rfl) ?_
    refine st_q (v := .int .i64 ((v : Nat) : Int)) (x_move rfl) ?_
    refine st_e (e_buildSlice (cs := [.int .i64 ((v : Nat) : Int)]) (e := 3) (fun _ => by kernel_rfl) ?_)
    intro w1141 hA1142
    have hx1143 := hA1142.ext
    have hs1144 := hA1142.size
    have hB1145 : Blk w1141.heap w1125.heap.size [.int .i64 ((v : Nat) : Int)] 3 := hA1142.new
    have hF1146 := hF1129.ext hx1143
    have hF1147 := hF1130.ext hx1143
    have hF1148 := hF1131.ext hx1143
    have hF1149 := hF1132.ext hx1143
    have hF1150 := hF1133.ext hx1143
    have hF1151 := hB1127.ext hx1143
    have hE1152 : Below w0.heap.size w0 w1141 := hx1143.e hE1134 (Nat.le_refl _)
    have hz1153 := hE1152.le
    have hs1154 := hx1143.size
    refine st_e (e_appendX T.sl38 rfl rfl hF1148 (hB1145.src1 (k := 1) (m := 1) rfl (by omega)) (ones (by rfl)) (by omega) (by decide) (by omega) ?_)
    intro v1155 w1156 hO1157 hG1158 hN1159 hW1160
    have hF1161 := hF1146.grown hG1158 (fun e => by first | exact hne e | (have := (hF1148.lt e).1; clear e; omega) | (have := (hO.lt e).2; clear e; omega))
    have hF1162 := hF1147.grown hG1158 (fun e => by first | exact hne e | (have := (hF1148.lt e).1; clear e; omega) | (have := (hO.lt e).2; clear e; omega))
    have hF1163 := hF1149.grown hG1158 (fun b hb e => hne b e hb)
    have hF1164 := hF1150.grown hG1158 (fun e => by first | exact hne e | (have := (hF1148.lt e).1; clear e; omega) | (have := (hO.lt e).2; clear e; omega))
    have hF1165 := hF1151.grown hG1158 (fun e => by first | exact hne e | (have := (hF1148.lt e).1; clear e; omega) | (have := (hO.lt e).2; clear e; omega))
    have hE1166 : Below w0.heap.size w0 w1156 := grown_below hG1158 hE1152 (Nat.le_refl _) (fun b hb => (by have := (hF1148.lt hb).1; clear hb; omega))
    have hz1167 := hE1166.le
    have hs1168 := hG1158.size
    have hO1169 := Own.snoc (enc := enN) (u := v) hO1157
    obtain ⟨a1170, c1171, rfl, hm1172, hm1173⟩ := hO1169.src.form
    have hne1174 : ∀ b, (.slice a1170 ((W.length + 1)) c1171 : Value).ownBlock = some b → (.slice a1100 O.length c1101 : Value).ownBlock ≠ some b := Where.apart hW1160 hne hF1149
    refine st_q (v := .slice a1100 O.length c1101) (x_move rfl) ?_
    refine st_q (v := .int .i64 ((v : Nat) : Int)) (x_move rfl) ?_
    refine st_e (e_buildSlice (cs := [.int .i64 ((v : Nat) : Int)]) (e := 3) (fun _ => by kernel_rfl) ?_)
    intro w1175 hA1176
    have hx1177 := hA1176.ext
    have hs1178 := hA1176.size
    have hB1179 : Blk w1175.heap w1156.heap.size [.int .i64 ((v : Nat) : Int)] 3 := hA1176.new
    have hF1180 := hF1161.ext hx1177
    have hF1181 := hF1162.ext hx1177
    have hF1182 := hF1163.ext hx1177
    have hF1183 := hF1164.ext hx1177
    have hF1184 := hF1165.ext hx1177
    have hF1185 := hO1169.ext hx1177
    have hE1186 : Below w0.heap.size w0 w1175 := hx1177.e hE1166 (Nat.le_refl _)
    have hz1187 := hE1186.le
    have hs1188 := hx1177.size
    refine st_e (e_appendX T.sl38 rfl rfl hF1182 (hB1179.src1 (k := 1) (m := 1) rfl (by omega)) (ones (by rfl)) (by omega) (by decide) (by omega) ?_)
    intro v1189 w1190 hO1191 hG1192 hN1193 hW1194
    have hF1195 := hF1180.grown hG1192 (fun e => by first | exact hne e | (have := (hF1182.lt e).1; clear e; omega) | (have := (hO.lt e).2; clear e; omega))
    have hF1196 := hF1181.grown hG1192 (fun e => by first | exact hne e | (have := (hF1182.lt e).1; clear e; omega) | (have := (hO.lt e).2; clear e; omega))
    have hF1197 := hF1183.grown hG1192 (fun e => by first | exact hne e | (have := (hF1182.lt e).1; clear e; omega) | (have := (hO.lt e).2; clear e; omega))
    have hF1198 := hF1184.grown hG1192 (fun e => by first | exact hne e | (have := (hF1182.lt e).1; clear e; omega) | (have := (hO.lt e).2; clear e; omega))
    have hF1199 := hF1185.grown hG1192 (fun b hb e => hne1174 b hb e)
    have hE1200 : Below w0.heap.size w0 w1190 := grown_below hG1192 hE1186 (Nat.le_refl _) (fun b hb => (by have := (hF1182.lt hb).1; clear hb; omega))
    have hz1201 := hE1200.le
    have hs1202 := hG1192.size
    have hO1203 := Own.snoc (enc := enN) (u := v) hO1191
    obtain ⟨a1204, c1205, rfl, hm1206, hm1207⟩ := hO1203.src.form
    have hne1208 : ∀ b, (.slice a1170 ((W.length + 1)) c1171 : Value).ownBlock = some b → (.slice a1204 ((O.length + 1)) c1205 : Value).ownBlock ≠ some b := fun b h1 h2 => Where.apart hW1194 (fun b h3 h4 => hne1174 b h4 h3) hF1185 b h2 h1
    refine st_q (v := .slice a1170 ((W.length + 1)) c1171) (x_assign rfl) ?_
    refine st_q (v := .slice a1204 ((O.length + 1)) c1205) (x_assign rfl) ?_
    refine st_nil ?_
    refine kn1137 _ _ ?_
    refine kn1082 _ (bp, bl, bs, bn, lo1, P, (Lo.set v ((cnt + 1))), (Se.set v ((cnt + 1))), Nx, (W ++ [v]), (O ++ [v]), (cnt + 1), pts, rt, v, .slice a1170 ((W.length + 1)) c1171, .slice a1204 ((O.length + 1)) c1205) _ ⟨rfl, rfl, rfl, rfl, rfl, rfl, rfl, rfl, rfl, rfl, rfl, rfl, rfl, trivial⟩ ⟨hE1200, ?_⟩ ?_
    ·
      try dsimp only
      exact ⟨by omega, by omega, by omega, by omega, by omega, by omega, by omega, by omega, by omega, by omega, by omega, by omega, by omega, by omega, by omega, hF1195, hF1198, hF1197, hF1196, by rw [List.length_append]; exact hF1199, by rw [List.length_append]; exact hO1203, hne1208, (hL.enter _).1⟩
    ·
      try dsimp only
      exact (hL.enter 0).2
  ·
    rintro τ1209 ⟨bp, bl, bs, bn, lo1, P, Lo, Se, Nx, W, O, cnt, pts, rt, v, vw, vo⟩ w1210 ⟨hx1211, ⟨hbA0, hbA1, hbA2, hbA3, hbA4, hbA5, hbA6, hbA7, hbD0, hbD1, hbD2, hbD3, hbD4, hbD5, hlo, hOp, hOl, hOs, hOn, hW, hO, hne, hL⟩⟩
    try dsimp only at hbA0 hbA1 hbA2 hbA3 hbA4 hbA5 hbA6 hbA7 hbD0 hbD1 hbD2 hbD3 hbD4 hbD5 hlo hOp hOl hOs hOn hW hO hne hL
    have hz1212 := hx1211.le
    intro Q1213 kg1215 km1219 kr1216 ke1217
    obtain ⟨hlp, hll, hls, hlx, hwl, hol, hcn, hpn, hq⟩ := LI.lens2 hL
    have htop := LI.top hL
    have htop1 := htop.1
    have hl1220 := hOp.lo
    have hl1221 := hOp.lt
    have hl1222 := hOl.lo
    have hl1223 := hOl.lt
    have hl1224 := hOs.lo
    have hl1225 := hOs.lt
    have hl1226 := hOn.lo
    have hl1227 := hOn.lt
    obtain ⟨a1228, c1229, rfl, hm1230, hm1231⟩ := hW.src.form
    obtain ⟨a1232, c1233, rfl, hm1234, hm1235⟩ := hO.src.form
    refine seqG fun Q1236 kn1237 kr1238 ke1239 kg1240 => ?_
    refine region ?_
    refine st_q (v := .slice a1228 W.length c1229) (x_move rfl) ?_
    refine st_q (v := .slice a1228 W.length c1229) (x_move rfl) ?_
    refine st_q (v := .int .i64 ((W.length : Nat) : Int)) (x_lenSl rfl Try.underlying38 rfl) ?_
    refine st_q (v := .int .i64 (((W.length - 1) : Nat) : Int)) (x_subN rfl rfl (by omega) (by omega)) ?_
    obtain ⟨b1241, o1242, ha1243, hc1244⟩ := hW.src.at (by omega)
    refine st_q (v := .pointer (some ⟨b1241, o1242 + ((W.length - 1)) * 1, none⟩)) (x_index' T.sl38 rfl ha1243 rfl (by omega)) ?_
    refine st_q (v := .int .i64 (((el W ((W.length - 1))) : Nat) : Int)) (x_load1 T.na3 rfl (hc1244.elem enN_len (i := (W.length - 1)) (by omega))) ?_
    refine st_q (v := .int .i64 (((el W ((W.length - 1))) : Nat) : Int)) (x_assign rfl) ?_
    refine st_nil ?_
    refine kn1237 _ _ ?_
    refine seqG fun Q1245 kn1246 kr1247 ke1248 kg1249 => ?_
    refine seqG fun Q1250 kn1251 kr1252 ke1253 kg1254 => ?_
    refine regionD1 [3, 7, 10] [0, 1, 2, 3, 4, 5, 6, 7, 8, 9, 10, 11, 12] (.one 0 (.one 1 (.one 2 (.one 3 (.one 4 (.one 5 (.one 6 (.one 7 (.one 8 (.one 9 (.one 10 (.one 11 (.one 12 .done))))))))))))) (by kernel_rfl) (by kernel_rfl) ?_
    intro w1255 hx1256 hs1257
    have hF1258 := hOp.ext hx1256
    have hF1259 := hOl.ext hx1256
    have hF1260 := hOs.ext hx1256
    have hF1261 := hOn.ext hx1256
    have hF1262 := hW.ext hx1256
    have hF1263 := hO.ext hx1256
    have hF1264 := hc1244.ext hx1256
    have hE1265 : Below w0.heap.size w0 w1255 := hx1256.e hx1211 (Nat.le_refl _)
    have hz1266 := hE1265.le
    have hs1267 := hx1256.size
    have hS1268 : Ext w1255 w1255 := Below.refl _ _
    refine d_q (v := .slice ((some ⟨bn, 0, none⟩)) ns.length ns.length) rfl rfl (fun _ => x_move rfl) ?_
    refine d_q (v := .int .i64 (((el W ((W.length - 1))) : Nat) : Int)) rfl rfl (fun _ => x_move rfl) ?_
    refine d_q (v := .pointer (some ⟨bn, 0 + ((el W ((W.length - 1)))) * 1, none⟩)) rfl rfl (fun _ => x_index T.sl38 rfl rfl (by omega)) ?_
    refine d_l (v := .int .i64 (((el Nx ((el W ((W.length - 1))))) : Nat) : Int)) rfl rfl rfl (fun v1270 hw1269 => x_load1 T.na3 rfl ((hF1261.cells.elem enN_len (i := (el W ((W.length - 1)))) (by omega)).ext hw1269)) ?_
    refine d_q (v := .pointer (some ⟨g, 0, none⟩)) rfl rfl (fun _ => x_move rfl) ?_
    refine d_q (v := .pointer (some ⟨g, 0, none⟩)) rfl rfl (fun _ => x_nilCheck rfl) ?_
    refine d_q (v := .pointer (some ⟨g, 2, none⟩)) rfl rfl (fun _ => x_field (o := 0) T.fa65_2 rfl) ?_
    refine d_l (v := .slice ((some ⟨D.bo, 0, none⟩)) ns.length ns.length) rfl rfl rfl (fun v1272 hw1271 => x_load1 T.na63 rfl (((hN.blk.keep (hE1265.block _ hN.blk.lt)).one 2 rfl).ext hw1271)) ?_
    refine d_q (v := .int .i64 (((el W ((W.length - 1))) : Nat) : Int)) rfl rfl (fun _ => x_move rfl) ?_
    refine d_q (v := .pointer (some ⟨D.bo, 0 + ((el W ((W.length - 1)))) * 1, none⟩)) rfl rfl (fun _ => x_index T.sl63 rfl rfl (by omega)) ?_
    obtain ⟨q1275, c1276, e1277, hs1278⟩ := hN.rows ((el W ((W.length - 1)))) (by omega)
    have hcp1279 := hs1278.capl
    refine d_l (v := .slice q1275 ((rowS ns es ((el W ((W.length - 1))))).length) c1276) rfl rfl rfl (fun v1274 hw1273 => x_load1 T.na38 rfl (Cells.conv ((((hN.out).below hE1265).elem enV_len (i := (el W ((W.length - 1)))) (by have := hN.vlen; omega)).ext hw1273) e1277)) ?_
    refine d_q (v := .int .i64 (((rowS ns es ((el W ((W.length - 1))))).length : Nat) : Int)) rfl rfl (fun _ => x_lenSl rfl Try.underlying38 rfl) ?_
    refine d_q (v := .bool (decide (((el Nx ((el W ((W.length - 1)))))) < ((rowS ns es ((el W ((W.length - 1))))).length)))) rfl rfl (fun _ => x_lssN rfl rfl) ?_
    refine d_done ?_
    refine kn1251 _ _ ?_
    refine cnd (p := ((el Nx ((el W ((W.length - 1)))))) < ((rowS ns es ((el W ((W.length - 1))))).length)) rfl (fun h1280 => ?_) (fun h1280 => ?_)
    ·
      refine seqG fun Q1281 kn1282 kr1283 ke1284 kg1285 => ?_
      refine regionD1 [3, 8, 11, 15, 17, 20, 21] [0, 1, 2, 3, 4, 5, 6, 7, 8, 9, 10, 11, 12, 13, 14, 15, 16, 17, 18, 19, 20, 21, 22] (.one 0 (.one 1 (.one 2 (.one 3 (.one 4 (.one 5 (.one 6 (.one 7 (.one 8 (.one 9 (.one 10 (.one 11 (.one 12 (.one 13 (.one 14 (.one 15 (.one 16 (.one 17 (.one 18 (.one 19 (.one 20 (.one 21 (.one 22 .done))))))))))))))))))))))) (by kernel_rfl) (by kernel_rfl) ?_
      intro w1286 hx1287 hs1288
      have hF1289 := hF1258.ext hx1287
      have hF1290 := hF1259.ext hx1287
      have hF1291 := hF1260.ext hx1287
      have hF1292 := hF1261.ext hx1287
      have hF1293 := hF1262.ext hx1287
      have hF1294 := hF1263.ext hx1287
      have hF1295 := hF1264.ext hx1287
      have hE1296 : Below w0.heap.size w0 w1286 := hx1287.e hE1265 (Nat.le_refl _)
      have hz1297 := hE1296.le
      have hs1298 := hx1287.size
      have hS1299 : Ext w1286 w1286 := Below.refl _ _
      refine d_q (v := .pointer (some ⟨g, 0, none⟩)) rfl rfl (fun _ => x_move rfl) ?_
      refine d_q (v := .pointer (some ⟨g, 0, none⟩)) rfl rfl (fun _ => x_nilCheck rfl) ?_
      refine d_q (v := .pointer (some ⟨g, 1, none⟩)) rfl rfl (fun _ => x_field (o := 0) T.fa65_1 rfl) ?_
      refine d_l (v := .map (some D.bm)) rfl rfl rfl (fun v1301 hw1300 => x_load1 T.na62 rfl (((hN.blk.keep (hE1296.block _ hN.blk.lt)).one 1 rfl).ext hw1300)) ?_
      refine d_q (v := .slice a es.length ca) rfl rfl (fun _ => x_move rfl) ?_
      refine d_q (v := .pointer (some ⟨g, 0, none⟩)) rfl rfl (fun _ => x_move rfl) ?_
      refine d_q (v := .pointer (some ⟨g, 0, none⟩)) rfl rfl (fun _ => x_nilCheck rfl) ?_
      refine d_q (v := .pointer (some ⟨g, 2, none⟩)) rfl rfl (fun _ => x_field (o := 0) T.fa65_2 rfl) ?_
      refine d_l (v := .slice ((some ⟨D.bo, 0, none⟩)) ns.length ns.length) rfl rfl rfl (fun v1303 hw1302 => x_load1 T.na63 rfl (((hN.blk.keep (hE1296.block _ hN.blk.lt)).one 2 rfl).ext hw1302)) ?_
      refine d_q (v := .int .i64 (((el W ((W.length - 1))) : Nat) : Int)) rfl rfl (fun _ => x_move rfl) ?_
      refine d_q (v := .pointer (some ⟨D.bo, 0 + ((el W ((W.length - 1)))) * 1, none⟩)) rfl rfl (fun _ => x_index T.sl63 rfl rfl (by omega)) ?_
      obtain ⟨q1306, c1307, e1308, hs1309⟩ := hN.rows ((el W ((W.length - 1)))) (by omega)
      have hcp1310 := hs1309.capl
      refine d_l (v := .slice q1306 ((rowS ns es ((el W ((W.length - 1))))).length) c1307) rfl rfl rfl (fun v1305 hw1304 => x_load1 T.na38 rfl (Cells.conv ((((hN.out).below hE1296).elem enV_len (i := (el W ((W.length - 1)))) (by have := hN.vlen; omega)).ext hw1304) e1308)) ?_
      refine d_q (v := .slice ((some ⟨bn, 0, none⟩)) ns.length ns.length) rfl rfl (fun _ => x_move rfl) ?_
      refine d_q (v := .int .i64 (((el W ((W.length - 1))) : Nat) : Int)) rfl rfl (fun _ => x_move rfl) ?_
      refine d_q (v := .pointer (some ⟨bn, 0 + ((el W ((W.length - 1)))) * 1, none⟩)) rfl rfl (fun _ => x_index T.sl38 rfl rfl (by omega)) ?_
      refine d_l (v := .int .i64 (((el Nx ((el W ((W.length - 1))))) : Nat) : Int)) rfl rfl rfl (fun v1312 hw1311 => x_load1 T.na3 rfl ((hF1292.cells.elem enN_len (i := (el W ((W.length - 1)))) (by omega)).ext hw1311)) ?_
      obtain ⟨b1313, o1314, ha1315, hc1316⟩ := hs1309.at (by omega)
      refine d_q (v := .pointer (some ⟨b1313, o1314 + ((el Nx ((el W ((W.length - 1)))))) * 1, none⟩)) rfl rfl (fun _ => x_index' T.sl38 rfl ha1315 rfl (by omega)) ?_
      have hek := row_lt (ns := ns) (es := es) (a := (el W (W.length - 1))) (k := el Nx (el W (W.length - 1))) (by assumption)
      have htl := ixS_lt (hends _ hek.1).2
      refine d_l (v := .int .i64 (((el (rowS ns es ((el W ((W.length - 1))))) ((el Nx ((el W ((W.length - 1))))))) : Nat) : Int)) rfl rfl rfl (fun v1318 hw1317 => x_load1 T.na3 rfl (((hc1316.below hE1296).elem enN_len (i := (el Nx ((el W ((W.length - 1)))))) (by omega)).ext hw1317)) ?_
      obtain ⟨b1319, o1320, ha1321, hc1322⟩ := ha.at (by omega)
      refine d_q (v := .pointer (some ⟨b1319, o1320 + ((el (rowS ns es ((el W ((W.length - 1))))) ((el Nx ((el W ((W.length - 1)))))))) * 3, none⟩)) rfl rfl (fun _ => x_index' T.sl23 rfl ha1321 rfl (by omega)) ?_
      refine d_q (v := .pointer (some ⟨b1319, o1320 + ((el (rowS ns es ((el W ((W.length - 1))))) ((el Nx ((el W ((W.length - 1)))))))) * 3 + 1, none⟩)) rfl rfl (fun _ => x_field (o := o1320 + ((el (rowS ns es ((el W ((W.length - 1))))) ((el Nx ((el W ((W.length - 1)))))))) * 3) T.fa47_1 rfl) ?_
      refine d_l (v := .string ((el es ((el (rowS ns es ((el W ((W.length - 1))))) ((el Nx ((el W ((W.length - 1))))))))).2.1)) rfl rfl rfl (fun v1324 hw1323 => x_load1 T.na9 rfl ((((hc1322.below hE1296).elem enE_len (i := (el (rowS ns es ((el W ((W.length - 1))))) ((el Nx ((el W ((W.length - 1)))))))) (by omega)).fld 1 rfl).ext hw1323)) ?_
      refine d_l (v := .int .i64 (((ixS ns ((el es ((el (rowS ns es ((el W ((W.length - 1))))) ((el Nx ((el W ((W.length - 1))))))))).2.1)) : Nat) : Int)) rfl rfl rfl (fun v1326 hw1325 => x_lookupM rfl rfl Try.underlying9 Try.underlying3 Try.underlying62 zeroI (OMap.ext (OMap.belowW hN.map hE1296) hw1325) (hN.fitn _ (hends _ hek.1).2) (hends _ hek.1).2) ?_
      refine d_q (v := .int .i64 (((ixS ns ((el es ((el (rowS ns es ((el W ((W.length - 1))))) ((el Nx ((el W ((W.length - 1))))))))).2.1)) : Nat) : Int)) rfl rfl (fun _ => x_assign rfl) ?_
      refine d_done ?_
      refine kn1282 _ _ ?_
      refine seqG fun Q1327 kn1328 kr1329 ke1330 kg1331 => ?_
      refine region ?_
      refine st_q (v := .slice ((some ⟨bn, 0, none⟩)) ns.length ns.length) (x_move rfl) ?_
      refine st_q (v := .int .i64 (((el W ((W.length - 1))) : Nat) : Int)) (x_move rfl) ?_
      refine st_q (v := .pointer (some ⟨bn, 0 + ((el W ((W.length - 1)))) * 1, none⟩)) (x_index T.sl38 rfl rfl (by omega)) ?_
      refine st_q (v := .int .i64 (((el Nx ((el W ((W.length - 1))))) : Nat) : Int)) (x_load1 T.na3 rfl (hF1292.cells.elem enN_len (i := (el W ((W.length - 1)))) (by omega))) ?_
      refine st_q (v := .int .i64 ((((el Nx ((el W ((W.length - 1))))) + 1) : Nat) : Int)) (x_addN rfl rfl (by omega)) ?_
      refine st_q (v := .pointer (some ⟨bn, 0 + ((el W ((W.length - 1)))) * 1, none⟩)) (x_index T.sl38 rfl rfl (by omega)) ?_
      refine st_s (e_stO (v := .int .i64 ((((el Nx ((el W ((W.length - 1))))) + 1) : Nat) : Int)) (u := ((el Nx ((el W ((W.length - 1))))) + 1)) enN_len T.sz3 rfl rfl rfl hF1292 (by first | omega | (rw [List.length_set]; omega)) (by rfl) ?_)
      intro w1332 _ hP1333 hB1334
      have hs1335 := hP1333.size
      have hF1336 := hF1289.pt hP1333 (by omega)
      have hF1337 := hF1290.pt hP1333 (by omega)
      have hF1338 := hF1291.pt hP1333 (by omega)
      have hF1339 := hF1293.pt hP1333 (by first | (intro e; have := (hF1293.lt e).1; clear e; omega) | (simp [Value.ownBlock]; omega))
      have hF1340 := hF1294.pt hP1333 (by first | (intro e; have := (hF1294.lt e).1; clear e; omega) | (simp [Value.ownBlock]; omega))
      have hE1342 : Below w0.heap.size w0 w1332 := hP1333.below hE1296 (by omega)
      have hz1343 := hE1342.le
      refine st_nil ?_
      refine kn1328 _ _ ?_
      refine seqG fun Q1344 kn1345 kr1346 ke1347 kg1348 => ?_
      refine seqG fun Q1349 kn1350 kr1351 ke1352 kg1353 => ?_
      refine region ?_
      refine st_q (v := .slice ((some ⟨bs, 0, none⟩)) ns.length ns.length) (x_move rfl) ?_
      refine st_q (v := .int .i64 (((ixS ns ((el es ((el (rowS ns es ((el W ((W.length - 1))))) ((el Nx ((el W ((W.length - 1))))))))).2.1)) : Nat) : Int)) (x_move rfl) ?_
      refine st_q (v := .pointer (some ⟨bs, 0 + ((ixS ns ((el es ((el (rowS ns es ((el W ((W.length - 1))))) ((el Nx ((el W ((W.length - 1))))))))).2.1))) * 1, none⟩)) (x_index T.sl38 rfl rfl (by omega)) ?_
      refine st_q (v := .int .i64 (((el Se ((ixS ns ((el es ((el (rowS ns es ((el W ((W.length - 1))))) ((el Nx ((el W ((W.length - 1))))))))).2.1)))) : Nat) : Int)) (x_load1 T.na3 rfl (hF1338.cells.elem enN_len (i := (ixS ns ((el es ((el (rowS ns es ((el W ((W.length - 1))))) ((el Nx ((el W ((W.length - 1))))))))).2.1))) (by omega))) ?_
      refine st_q (v := .bool (decide (((el Se ((ixS ns ((el es ((el (rowS ns es ((el W ((W.length - 1))))) ((el Nx ((el W ((W.length - 1))))))))).2.1))))) = 0))) (x_eqlN rfl rfl) ?_
      refine st_nil ?_
      refine kn1350 _ _ ?_
      refine cnd (p := ((el Se ((ixS ns ((el es ((el (rowS ns es ((el W ((W.length - 1))))) ((el Nx ((el W ((W.length - 1))))))))).2.1))))) = 0) rfl (fun h1354 => ?_) (fun h1354 => ?_)
      ·
        refine seqG fun Q1355 kn1356 kr1357 ke1358 kg1359 => ?_
        refine region ?_
        refine st_q (v := .int .i64 (((ixS ns ((el es ((el (rowS ns es ((el W ((W.length - 1))))) ((el Nx ((el W ((W.length - 1))))))))).2.1)) : Nat) : Int)) (x_move rfl) ?_
        refine st_q (v := .int .i64 (((ixS ns ((el es ((el (rowS ns es ((el W ((W.length - 1))))) ((el Nx ((el W ((W.length - 1))))))))).2.1)) : Nat) : Int)) (x_assign rfl) ?_
        refine st_nil ?_
        refine kn1356 _ _ ?_
        refine gotoS ?_
        refine kg1348 _ _ _ ?_
        refine kg1249 _ _ _ ?_
        refine kg1215 1 _ (bp, bl, bs, bn, lo1, P, Lo, Se, (Nx.set ((el W ((W.length - 1)))) (((el Nx ((el W ((W.length - 1))))) + 1))), W, O, cnt, pts, rt, (ixS ns ((el es ((el (rowS ns es ((el W ((W.length - 1))))) ((el Nx ((el W ((W.length - 1))))))))).2.1)), .slice a1228 W.length c1229, .slice a1232 O.length c1233) _ (by decide) ⟨rfl, rfl, rfl, rfl, rfl, rfl, rfl, rfl, rfl, rfl, rfl, rfl, rfl, trivial⟩ ⟨hE1342, ?_⟩ ?_
        ·
          try dsimp only
          exact ⟨by omega, by omega, by omega, by omega, by omega, by omega, by omega, by omega, by omega, by omega, by omega, by omega, by omega, by omega, by omega, hF1336, hF1337, hF1338, hB1334, hF1339, hF1340, hne, (hL.edge_new rfl (outN_lt hends) (by rw [outN_len]; assumption) (outN_el (by assumption)).symm (by assumption)).1⟩
        ·
          try dsimp only
          exact (hL.edge_new rfl (outN_lt hends) (by rw [outN_len]; assumption) (outN_el (by assumption)).symm (by assumption)).2
      ·
        refine skip ?_
        refine kn1345 _ _ ?_
        refine seqG fun Q1360 kn1361 kr1362 ke1363 kg1364 => ?_
        refine seqG fun Q1365 kn1366 kr1367 ke1368 kg1369 => ?_
        refine region ?_
        refine st_q (v := .slice ((some ⟨bp, 0, none⟩)) ns.length ns.length) (x_move rfl) ?_
        refine st_q (v := .int .i64 (((ixS ns ((el es ((el (rowS ns es ((el W ((W.length - 1))))) ((el Nx ((el W ((W.length - 1))))))))).2.1)) : Nat) : Int)) (x_move rfl) ?_
        refine st_q (v := .pointer (some ⟨bp, 0 + ((ixS ns ((el es ((el (rowS ns es ((el W ((W.length - 1))))) ((el Nx ((el W ((W.length - 1))))))))).2.1))) * 1, none⟩)) (x_index T.sl38 rfl rfl (by omega)) ?_
        refine st_q (v := .int .i64 ((el P ((ixS ns ((el es ((el (rowS ns es ((el W ((W.length - 1))))) ((el Nx ((el W ((W.length - 1))))))))).2.1)))))) (x_load1 T.na3 rfl (hF1336.cells.elem enI_len (i := (ixS ns ((el es ((el (rowS ns es ((el W ((W.length - 1))))) ((el Nx ((el W ((W.length - 1))))))))).2.1))) (by omega))) ?_
        refine st_q (v := .bool (decide (((el P ((ixS ns ((el es ((el (rowS ns es ((el W ((W.length - 1))))) ((el Nx ((el W ((W.length - 1))))))))).2.1))))) < 0))) (x_lss rfl rfl) ?_
        refine st_nil ?_
        refine kn1366 _ _ ?_
        refine cnd (p := ((el P ((ixS ns ((el es ((el (rowS ns es ((el W ((W.length - 1))))) ((el Nx ((el W ((W.length - 1))))))))).2.1))))) < 0) rfl (fun h1370 => ?_) (fun h1370 => ?_)
        ·
          refine regionD1 [5, 9] [0, 1, 2, 3, 4, 5, 6, 7, 8, 9, 10, 11] (.one 0 (.one 1 (.one 2 (.one 3 (.one 4 (.one 5 (.one 6 (.one 7 (.one 8 (.one 9 (.one 10 (.one 11 (.one 12 .done))))))))))))) (by kernel_rfl) (by kernel_rfl) ?_
          intro w1371 hx1372 hs1373
          have hF1374 := hF1336.ext hx1372
          have hF1375 := hF1337.ext hx1372
          have hF1376 := hF1338.ext hx1372
          have hF1377 := hF1339.ext hx1372
          have hF1378 := hF1340.ext hx1372
          have hF1379 := hB1334.ext hx1372
          have hE1380 : Below w0.heap.size w0 w1371 := hx1372.e hE1342 (Nat.le_refl _)
          have hz1381 := hE1380.le
          have hs1382 := hx1372.size
          have hS1383 : Ext w1371 w1371 := Below.refl _ _
          refine d_q (v := .slice ((some ⟨bl, 0, none⟩)) ns.length ns.length) rfl rfl (fun _ => x_move rfl) ?_
          refine d_q (v := .int .i64 (((el W ((W.length - 1))) : Nat) : Int)) rfl rfl (fun _ => x_move rfl) ?_
          refine d_q (v := .slice ((some ⟨bl, 0, none⟩)) ns.length ns.length) rfl rfl (fun _ => x_move rfl) ?_
          refine d_q (v := .int .i64 (((el W ((W.length - 1))) : Nat) : Int)) rfl rfl (fun _ => x_move rfl) ?_
          refine d_q (v := .pointer (some ⟨bl, 0 + ((el W ((W.length - 1)))) * 1, none⟩)) rfl rfl (fun _ => x_index T.sl38 rfl rfl (by omega)) ?_
          refine d_l (v := .int .i64 (((el Lo ((el W ((W.length - 1))))) : Nat) : Int)) rfl rfl rfl (fun v1385 hw1384 => x_load1 T.na3 rfl ((hF1375.cells.elem enN_len (i := (el W ((W.length - 1)))) (by omega)).ext hw1384)) ?_
          refine d_q (v := .slice ((some ⟨bs, 0, none⟩)) ns.length ns.length) rfl rfl (fun _ => x_move rfl) ?_
          refine d_q (v := .int .i64 (((ixS ns ((el es ((el (rowS ns es ((el W ((W.length - 1))))) ((el Nx ((el W ((W.length - 1))))))))).2.1)) : Nat) : Int)) rfl rfl (fun _ => x_move rfl) ?_
          refine d_q (v := .pointer (some ⟨bs, 0 + ((ixS ns ((el es ((el (rowS ns es ((el W ((W.length - 1))))) ((el Nx ((el W ((W.length - 1))))))))).2.1))) * 1, none⟩)) rfl rfl (fun _ => x_index T.sl38 rfl rfl (by omega)) ?_
          refine d_l (v := .int .i64 (((el Se ((ixS ns ((el es ((el (rowS ns es ((el W ((W.length - 1))))) ((el Nx ((el W ((W.length - 1))))))))).2.1)))) : Nat) : Int)) rfl rfl rfl (fun v1387 hw1386 => x_load1 T.na3 rfl ((hF1376.cells.elem enN_len (i := (ixS ns ((el es ((el (rowS ns es ((el W ((W.length - 1))))) ((el Nx ((el W ((W.length - 1))))))))).2.1))) (by omega)).ext hw1386)) ?_
          refine d_q (v := .int .i64 (((min ((el Lo ((el W ((W.length - 1)))))) ((el Se ((ixS ns ((el es ((el (rowS ns es ((el W ((W.length - 1))))) ((el Nx ((el W ((W.length - 1))))))))).2.1)))))) : Nat) : Int)) rfl rfl (fun _ => x_minN rfl rfl) ?_
          refine d_q (v := .pointer (some ⟨bl, 0 + ((el W ((W.length - 1)))) * 1, none⟩)) rfl rfl (fun _ => x_index T.sl38 rfl rfl (by omega)) ?_
          refine d_e (by decide) (d_s' rfl rfl (e_stO (v := .int .i64 (((min ((el Lo ((el W ((W.length - 1)))))) ((el Se ((ixS ns ((el es ((el (rowS ns es ((el W ((W.length - 1))))) ((el Nx ((el W ((W.length - 1))))))))).2.1)))))) : Nat) : Int)) (u := (min ((el Lo ((el W ((W.length - 1)))))) ((el Se ((ixS ns ((el es ((el (rowS ns es ((el W ((W.length - 1))))) ((el Nx ((el W ((W.length - 1))))))))).2.1))))))) enN_len T.sz3 rfl rfl rfl hF1375 (by first | omega | (rw [List.length_set]; omega)) (by rfl) ?_))
          intro w1388 _ hP1389 hB1390
          have hs1391 := hP1389.size
          have hF1392 := hF1374.pt hP1389 (by omega)
          have hF1393 := hF1376.pt hP1389 (by omega)
          have hF1394 := hF1377.pt hP1389 (by first | (intro e; have := (hF1377.lt e).1; clear e; omega) | (simp [Value.ownBlock]; omega))
          have hF1395 := hF1378.pt hP1389 (by first | (intro e; have := (hF1378.lt e).1; clear e; omega) | (simp [Value.ownBlock]; omega))
          have hF1396 := hF1379.pt hP1389 (by omega)
          have hE1397 : Below w0.heap.size w0 w1388 := hP1389.below hE1380 (by omega)
          have hz1398 := hE1397.le
          refine ⟨need_no (by kernel_rfl), ?_⟩
          refine d_done ?_
          refine kn1361 _ _ ?_
          refine gotoS ?_
          refine kg1249 _ _ _ ?_
          refine kg1215 2 _ (bp, bl, bs, bn, lo1, P, (Lo.set ((el W ((W.length - 1)))) ((min ((el Lo ((el W ((W.length - 1)))))) ((el Se ((ixS ns ((el es ((el (rowS ns es ((el W ((W.length - 1))))) ((el Nx ((el W ((W.length - 1))))))))).2.1)))))))), Se, (Nx.set ((el W ((W.length - 1)))) (((el Nx ((el W ((W.length - 1))))) + 1))), W, O, cnt, pts, rt, (el W ((W.length - 1))), .slice a1228 W.length c1229, .slice a1232 O.length c1233) _ (by decide) ⟨rfl, rfl, rfl, rfl, rfl, rfl, rfl, rfl, rfl, rfl, rfl, rfl, rfl, trivial⟩ ⟨hE1397, ?_⟩ ?_
          ·
            try dsimp only
            exact ⟨by omega, by omega, by omega, by omega, by omega, by omega, by omega, by omega, by omega, by omega, by omega, by omega, by omega, by omega, by omega, hF1392, hB1390, hF1393, hF1396, hF1394, hF1395, hne, (hL.edge_open rfl (outN_lt hends) (by rw [outN_len]; assumption) (outN_el (by assumption)).symm (by assumption) (by assumption) _).1⟩
          ·
            try dsimp only
            exact (hL.edge_open rfl (outN_lt hends) (by rw [outN_len]; assumption) (outN_el (by assumption)).symm (by assumption) (by assumption) 0).2
        ·
          refine skip ?_
          refine kn1361 _ _ ?_
          refine gotoS ?_
          refine kg1249 _ _ _ ?_
          refine kg1215 2 _ (bp, bl, bs, bn, lo1, P, Lo, Se, (Nx.set ((el W ((W.length - 1)))) (((el Nx ((el W ((W.length - 1))))) + 1))), W, O, cnt, pts, rt, (el W ((W.length - 1))), .slice a1228 W.length c1229, .slice a1232 O.length c1233) _ (by decide) ⟨rfl, rfl, rfl, rfl, rfl, rfl, rfl, rfl, rfl, rfl, rfl, rfl, rfl, trivial⟩ ⟨hE1342, ?_⟩ ?_
          ·
            try dsimp only
            exact ⟨by omega, by omega, by omega, by omega, by omega, by omega, by omega, by omega, by omega, by omega, by omega, by omega, by omega, by omega, by omega, hF1336, hF1337, hF1338, hB1334, hF1339, hF1340, hne, (hL.edge_old rfl (outN_lt hends) (by rw [outN_len]; assumption) (outN_el (by assumption)).symm (by assumption) (by assumption) _).1⟩
          ·
            try dsimp only
            exact (hL.edge_old rfl (outN_lt hends) (by rw [outN_len]; assumption) (outN_el (by assumption)).symm (by assumption) (by assumption) 0).2
    ·
      refine skip ?_
      refine kn1246 _ _ ?_
      refine seqG fun Q1399 kn1400 kr1401 ke1402 kg1403 => ?_
      refine region ?_
      refine st_q (v := .slice a1228 W.length c1229) (x_move rfl) ?_
      refine st_q (v := .slice a1228 W.length c1229) (x_move rfl) ?_
      refine st_q (v := .int .i64 ((W.length : Nat) : Int)) (x_lenSl rfl Try.underlying38 rfl) ?_
      refine st_q (v := .int .i64 (((W.length - 1) : Nat) : Int)) (x_subN rfl rfl (by omega) (by omega)) ?_
      have hW1404 := Own.take enN_len hF1262 (j := W.length - 1) (by omega) rfl
      have hW2l : (W.take (W.length - 1)).length = W.length - 1 := by rw [List.length_take]; omega
      refine st_q (v := .slice a1228 ((W.length - 1)) c1229) (x_sliceHi T.sl38 rfl rfl (by omega)) ?_
      refine st_q (v := .slice a1228 ((W.length - 1)) c1229) (x_assign rfl) ?_
      refine st_nil ?_
      refine kn1400 _ _ ?_
      refine seqG fun Q1405 kn1406 kr1407 ke1408 kg1409 => ?_
      refine seqG fun Q1410 kn1411 kr1412 ke1413 kg1414 => ?_
      refine regionD1 [3, 7] [0, 1, 2, 3, 4, 5, 6, 7, 8] (.one 0 (.one 1 (.one 2 (.one 3 (.one 4 (.one 5 (.one 6 (.one 7 (.one 8 .done))))))))) (by kernel_rfl) (by kernel_rfl) ?_
      intro w1415 hx1416 hs1417
      have hF1418 := hF1258.ext hx1416
      have hF1419 := hF1259.ext hx1416
      have hF1420 := hF1260.ext hx1416
      have hF1421 := hF1261.ext hx1416
      have hF1422 := hW1404.ext hx1416
      have hF1423 := hF1263.ext hx1416
      have hF1424 := hF1264.ext hx1416
      have hE1425 : Below w0.heap.size w0 w1415 := hx1416.e hE1265 (Nat.le_refl _)
      have hz1426 := hE1425.le
      have hs1427 := hx1416.size
      have hS1428 : Ext w1415 w1415 := Below.refl _ _
      refine d_q (v := .slice ((some ⟨bl, 0, none⟩)) ns.length ns.length) rfl rfl (fun _ => x_move rfl) ?_
      refine d_q (v := .int .i64 (((el W ((W.length - 1))) : Nat) : Int)) rfl rfl (fun _ => x_move rfl) ?_
      refine d_q (v := .pointer (some ⟨bl, 0 + ((el W ((W.length - 1)))) * 1, none⟩)) rfl rfl (fun _ => x_index T.sl38 rfl rfl (by omega)) ?_
      refine d_l (v := .int .i64 (((el Lo ((el W ((W.length - 1))))) : Nat) : Int)) rfl rfl rfl (fun v1430 hw1429 => x_load1 T.na3 rfl ((hF1419.cells.elem enN_len (i := (el W ((W.length - 1)))) (by omega)).ext hw1429)) ?_
      refine d_q (v := .slice ((some ⟨bs, 0, none⟩)) ns.length ns.length) rfl rfl (fun _ => x_move rfl) ?_
      refine d_q (v := .int .i64 (((el W ((W.length - 1))) : Nat) : Int)) rfl rfl (fun _ => x_move rfl) ?_
      refine d_q (v := .pointer (some ⟨bs, 0 + ((el W ((W.length - 1)))) * 1, none⟩)) rfl rfl (fun _ => x_index T.sl38 rfl rfl (by omega)) ?_
      refine d_l (v := .int .i64 (((el Se ((el W ((W.length - 1))))) : Nat) : Int)) rfl rfl rfl (fun v1432 hw1431 => x_load1 T.na3 rfl ((hF1420.cells.elem enN_len (i := (el W ((W.length - 1)))) (by omega)).ext hw1431)) ?_
      refine d_q (v := .bool (decide (((el Lo ((el W ((W.length - 1)))))) = ((el Se ((el W ((W.length - 1))))))))) rfl rfl (fun _ => x_eqlN rfl rfl) ?_
      refine d_done ?_
      refine kn1411 _ _ ?_
      refine cnd (p := ((el Lo ((el W ((W.length - 1)))))) = ((el Se ((el W ((W.length - 1))))))) rfl (fun h1433 => ?_) (fun h1433 => ?_)
      ·
        refine seqG fun Q1434 kn1435 kr1436 ke1437 kg1438 => ?_
        refine blockK fun Q1439 kn1440 kr1441 kx1442 kb1443 => ?_
        refine loopK (α := Nat × (List Int)) (fun x => [(0, .pointer (some ⟨g, 0, none⟩)), (1, .slice a es.length ca), (6, .int .i64 ((ns.length : Nat) : Int)), (7, .slice ((some ⟨bp, 0, none⟩)) ns.length ns.length), (8, .slice ((some ⟨bl, 0, none⟩)) ns.length ns.length), (9, .slice ((some ⟨bs, 0, none⟩)) ns.length ns.length), (10, .slice ((some ⟨bn, 0, none⟩)) ns.length ns.length), (11, .slice a1228 ((W.length - 1)) c1229), (12, .slice a1232 x.1 c1233), (13, .int .i64 ((cnt : Nat) : Int)), (14, .int .i64 ((pts : Nat) : Int)), (15, .int .i64 rt), (16, .int .i64 (((el W ((W.length - 1))) : Nat) : Int))]) (fun x w1444 => Below w0.heap.size w0 w1444 ∧ Own w1444.heap lo1 3 1 (.slice a1232 x.1 c1233) x.1 (flat enN (O.take x.1)) ∧ Own w1444.heap lo1 3 1 (.slice a1228 ((W.length - 1)) c1229) (W.length - 1) (flat enN (W.take (W.length - 1))) ∧ OB w1444.heap w0.heap.size 3 1 bp ns.length (flat enI x.2) ∧ OB w1444.heap w0.heap.size 3 1 bl ns.length (flat enN Lo) ∧ OB w1444.heap w0.heap.size 3 1 bs ns.length (flat enN Se) ∧ OB w1444.heap w0.heap.size 3 1 bn ns.length (flat enN Nx) ∧ lo1 ≤ w1444.heap.size ∧ Pops ns.length P O pts (el W (W.length - 1)) x.1 x.2) (fun x => x.1) (O.length, P) ⟨rfl, rfl, rfl, rfl, rfl, rfl, rfl, rfl, rfl, rfl, rfl, rfl, rfl, trivial⟩ ?_ ?_
        ·
          refine ⟨hE1425, ?_⟩
          try dsimp only
          exact ⟨by rw [List.take_length]; exact hF1423, hF1422, hF1418, hF1419, hF1420, hF1421, by omega, Pops.start hlp⟩
        ·
          rintro τ1445 ⟨m, P2⟩ w1446 ⟨hx1447, ⟨hO3, hW3, hOp3, hOl3, hOs3, hOn3, hlo3, hPo⟩⟩
          try dsimp only at hO3 hW3 hOp3 hOl3 hOs3 hOn3 hlo3 hPo
          have hz1448 := hx1447.le
          intro Q1449 kn1450 kr1451 ke1452
          have hm0 := hPo.pos htop.2.2
          have hmO := hPo.le
          have hP2 := hPo.len
          have hzl := LIot hL hm0 hmO
          have hOtl : (O.take m).length = m := by rw [List.length_take]; omega
          have hl1453 := hOp3.lo
          have hl1454 := hOp3.lt
          have hl1455 := hOl3.lo
          have hl1456 := hOl3.lt
          have hl1457 := hOs3.lo
          have hl1458 := hOs3.lt
          have hl1459 := hOn3.lo
          have hl1460 := hOn3.lt
          refine blockK fun Q1461 kn1462 kr1463 kx1464 kb1465 => ?_
          refine seqG fun Q1466 kn1467 kr1468 ke1469 kg1470 => ?_
          refine region ?_
          refine st_q (v := .slice a1232 m c1233) (x_move rfl) ?_
          refine st_q (v := .slice a1232 m c1233) (x_move rfl) ?_
          refine st_q (v := .int .i64 ((m : Nat) : Int)) (x_lenSl rfl Try.underlying38 rfl) ?_
          refine st_q (v := .int .i64 (((m - 1) : Nat) : Int)) (x_subN rfl rfl (by omega) (by omega)) ?_
          obtain ⟨b1471, o1472, ha1473, hc1474⟩ := hO3.src.at (by omega)
          refine st_q (v := .pointer (some ⟨b1471, o1472 + ((m - 1)) * 1, none⟩)) (x_index' T.sl38 rfl ha1473 rfl (by omega)) ?_
          refine st_q (v := .int .i64 (((el (O.take m) ((m - 1))) : Nat) : Int)) (x_load1 T.na3 rfl (hc1474.elem enN_len (i := (m - 1)) (by omega))) ?_
          refine st_q (v := .int .i64 (((el (O.take m) ((m - 1))) : Nat) : Int)) (x_assign rfl) ?_
          refine st_nil ?_
          refine kn1467 _ _ ?_
          refine seqG fun Q1475 kn1476 kr1477 ke1478 kg1479 => ?_
          refine region ?_
          refine st_q (v := .slice a1232 m c1233) (x_move rfl) ?_
          refine st_q (v := .slice a1232 m c1233) (x_move rfl) ?_
          refine st_q (v := .int .i64 ((m : Nat) : Int)) (x_lenSl rfl Try.underlying38 rfl) ?_
          refine st_q (v := .int .i64 (((m - 1) : Nat) : Int)) (x_subN rfl rfl (by omega) (by omega)) ?_
          have hO1480 := Own.take enN_len hO3 (j := m - 1) (by omega) (by omega)
          rw [List.take_take, Nat.min_eq_left (by omega)] at hO1480
          refine st_q (v := .slice a1232 ((m - 1)) c1233) (x_sliceHi T.sl38 rfl rfl (by omega)) ?_
          refine st_q (v := .slice a1232 ((m - 1)) c1233) (x_assign rfl) ?_
          refine st_nil ?_
          refine kn1476 _ _ ?_
          refine seqG fun Q1481 kn1482 kr1483 ke1484 kg1485 => ?_
          refine region ?_
          refine st_q (v := .slice ((some ⟨bp, 0, none⟩)) ns.length ns.length) (x_move rfl) ?_
          refine st_q (v := .int .i64 (((el (O.take m) ((m - 1))) : Nat) : Int)) (x_move rfl) ?_
          refine st_q (v := .int .i64 ((pts : Nat) : Int)) (x_move rfl) ?_
          refine st_q (v := .pointer (some ⟨bp, 0 + ((el (O.take m) ((m - 1)))) * 1, none⟩)) (x_index T.sl38 rfl rfl (by omega)) ?_
          refine st_s (e_stO (v := .int .i64 ((pts : Nat) : Int)) (u := ((pts : Nat) : Int)) enI_len T.sz3 rfl rfl rfl hOp3 (by first | omega | (rw [List.length_set]; omega)) (by rfl) ?_)
          intro w1486 _ hP1487 hB1488
          have hs1489 := hP1487.size
          have hF1490 := hW3.pt hP1487 (by first | (intro e; have := (hW3.lt e).1; clear e; omega) | (simp [Value.ownBlock]; omega))
          have hF1491 := hO1480.pt hP1487 (by first | (intro e; have := (hO1480.lt e).1; clear e; omega) | (simp [Value.ownBlock]; omega))
          have hF1492 := hOl3.pt hP1487 (by omega)
          have hF1493 := hOs3.pt hP1487 (by omega)
          have hF1494 := hOn3.pt hP1487 (by omega)
          have hE1496 : Below w0.heap.size w0 w1486 := hP1487.below hx1447 (by omega)
          have hz1497 := hE1496.le
          refine st_nil ?_
          refine kn1482 _ _ ?_
          refine seqG fun Q1498 kn1499 kr1500 ke1501 kg1502 => ?_
          refine region ?_
          refine st_q (v := .int .i64 (((el (O.take m) ((m - 1))) : Nat) : Int)) (x_move rfl) ?_
          refine st_q (v := .int .i64 (((el W ((W.length - 1))) : Nat) : Int)) (x_move rfl) ?_
          refine st_q (v := .bool (decide (((el (O.take m) ((m - 1)))) = ((el W ((W.length - 1))))))) (x_eqlN rfl rfl) ?_
          refine st_nil ?_
          refine kn1499 _ _ ?_
          refine cnd (p := ((el (O.take m) ((m - 1)))) = ((el W ((W.length - 1))))) rfl (fun h1503 => ?_) (fun h1503 => ?_)
          ·
            refine exit ?_
            refine kx1464 _ _ _ rfl ?_
            refine ke1452 _ _ _ ?_
            refine kb1443 _ _ ?_
            refine kn1435 _ _ ?_
            refine region ?_
            refine st_q (v := .int .i64 ((pts : Nat) : Int)) (x_move rfl) ?_
            refine st_q (v := .int .i64 (((pts + 1) : Nat) : Int)) (x_addN rfl rfl (by omega)) ?_
            refine st_q (v := .int .i64 (((pts + 1) : Nat) : Int)) (x_assign rfl) ?_
            refine st_nil ?_
            refine kn1406 _ _ ?_
            refine seqG fun Q1504 kn1505 kr1506 ke1507 kg1508 => ?_
            refine seqG fun Q1509 kn1510 kr1511 ke1512 kg1513 => ?_
            refine region ?_
            refine st_q (v := .slice a1228 ((W.length - 1)) c1229) (x_move rfl) ?_
            refine st_q (v := .int .i64 (((W.length - 1) : Nat) : Int)) (x_lenSl rfl Try.underlying38 rfl) ?_
            refine st_q (v := .bool (decide (((W.length - 1)) = 0))) (x_eqlN rfl rfl) ?_
            refine st_nil ?_
            refine kn1510 _ _ ?_
            refine cnd (p := ((W.length - 1)) = 0) rfl (fun h1514 => ?_) (fun h1514 => ?_)
            ·
              refine gotoS ?_
              refine kg1508 _ _ _ ?_
              refine kg1215 0 _ (bp, bl, bs, bn, lo1, (P2.set ((el (O.take m) ((m - 1)))) (((pts : Nat) : Int))), Lo, Se, Nx, (W.take (W.length - 1)), (O.take (m - 1)), cnt, (pts + 1), rt, (el W ((W.length - 1))), .slice a1228 ((W.length - 1)) c1229, .slice a1232 ((m - 1)) c1233) _ (by decide) ⟨rfl, rfl, rfl, rfl, rfl, rfl, rfl, rfl, rfl, rfl, rfl, rfl, rfl, trivial⟩ ⟨hE1496, ?_⟩ ?_
              ·
                try dsimp only
                have hLW := LIclose rfl (outN_lt hends) hL (by rw [outN_len]; assumption) (by assumption) hPo hm0 (by assumption)
                have hLL := hLW.start (List.length_eq_zero_iff.1 (by omega)) (el W (W.length - 1))
                exact ⟨by omega, by omega, by omega, by omega, by omega, by omega, by omega, by omega, by omega, by omega, by omega, by omega, by omega, by omega, by omega, hB1488, hF1492, hF1493, hF1494, by rw [hW2l]; exact hF1490, by rw [List.length_take, Nat.min_eq_left (by omega)]; exact hF1491, (fun b h1 h2 => hne b (ob_len.trans h1) (ob_len.trans h2)), hLL⟩
              ·
                try dsimp only
                exact mu_pop _ _ _ _ (by omega) _
            ·
              refine skip ?_
              refine kn1505 _ _ ?_
              refine seqG fun Q1515 kn1516 kr1517 ke1518 kg1519 => ?_
              refine regionD1 [6, 13, 15, 19] [0, 1, 2, 3, 4, 5, 6, 7, 8, 9, 10, 11, 12, 13, 14, 15, 16, 17, 18, 19, 20, 21] (.one 0 (.one 1 (.one 2 (.one 3 (.one 4 (.one 5 (.one 6 (.one 7 (.one 8 (.one 9 (.one 10 (.one 11 (.one 12 (.one 13 (.one 14 (.one 15 (.one 16 (.one 17 (.one 18 (.one 19 (.one 20 (.one 21 (.one 22 .done))))))))))))))))))))))) (by kernel_rfl) (by kernel_rfl) ?_
              intro w1520 hx1521 hs1522
              have hF1523 := hF1490.ext hx1521
              have hF1524 := hF1491.ext hx1521
              have hF1525 := hF1492.ext hx1521
              have hF1526 := hF1493.ext hx1521
              have hF1527 := hF1494.ext hx1521
              have hF1528 := hB1488.ext hx1521
              have hE1529 : Below w0.heap.size w0 w1520 := hx1521.e hE1496 (Nat.le_refl _)
              have hz1530 := hE1529.le
              have hs1531 := hx1521.size
              have hS1532 : Ext w1520 w1520 := Below.refl _ _
              refine d_q (v := .slice ((some ⟨bl, 0, none⟩)) ns.length ns.length) rfl rfl (fun _ => x_move rfl) ?_
              refine d_q (v := .slice a1228 ((W.length - 1)) c1229) rfl rfl (fun _ => x_move rfl) ?_
              refine d_q (v := .slice a1228 ((W.length - 1)) c1229) rfl rfl (fun _ => x_move rfl) ?_
              refine d_q (v := .int .i64 (((W.length - 1) : Nat) : Int)) rfl rfl (fun _ => x_lenSl rfl Try.underlying38 rfl) ?_
              refine d_q (v := .int .i64 ((((W.length - 1) - 1) : Nat) : Int)) rfl rfl (fun _ => x_subN rfl rfl (by omega) (by omega)) ?_
              obtain ⟨b1533, o1534, ha1535, hc1536⟩ := hF1523.src.at (by omega)
              refine d_q (v := .pointer (some ⟨b1533, o1534 + (((W.length - 1) - 1)) * 1, none⟩)) rfl rfl (fun _ => x_index' T.sl38 rfl ha1535 rfl (by omega)) ?_
              have hwt := LIwt hL (j := W.length - 1 - 1) (by omega)
              refine d_l (v := .int .i64 (((el (W.take (W.length - 1)) (((W.length - 1) - 1))) : Nat) : Int)) rfl rfl rfl (fun v1538 hw1537 => x_load1 T.na3 rfl ((hc1536.elem enN_len (i := ((W.length - 1) - 1)) (by omega)).ext hw1537)) ?_
              refine d_q (v := .slice ((some ⟨bl, 0, none⟩)) ns.length ns.length) rfl rfl (fun _ => x_move rfl) ?_
              refine d_q (v := .slice a1228 ((W.length - 1)) c1229) rfl rfl (fun _ => x_move rfl) ?_
              refine d_q (v := .slice a1228 ((W.length - 1)) c1229) rfl rfl (fun _ => x_move rfl) ?_
              refine d_q (v := .int .i64 (((W.length - 1) : Nat) : Int)) rfl rfl (fun _ => x_lenSl rfl Try.underlying38 rfl) ?_
              refine d_q (v := .int .i64 ((((W.length - 1) - 1) : Nat) : Int)) rfl rfl (fun _ => x_subN rfl rfl (by omega) (by omega)) ?_
              obtain ⟨b1539, o1540, ha1541, hc1542⟩ := hF1523.src.at (by omega)
              refine d_q (v := .pointer (some ⟨b1539, o1540 + (((W.length - 1) - 1)) * 1, none⟩)) rfl rfl (fun _ => x_index' T.sl38 rfl ha1541 rfl (by omega)) ?_
              refine d_l (v := .int .i64 (((el (W.take (W.length - 1)) (((W.length - 1) - 1))) : Nat) : Int)) rfl rfl rfl (fun v1544 hw1543 => x_load1 T.na3 rfl ((hc1542.elem enN_len (i := ((W.length - 1) - 1)) (by omega)).ext hw1543)) ?_
              refine d_q (v := .pointer (some ⟨bl, 0 + ((el (W.take (W.length - 1)) (((W.length - 1) - 1)))) * 1, none⟩)) rfl rfl (fun _ => x_index T.sl38 rfl rfl (by omega)) ?_
              refine d_l (v := .int .i64 (((el Lo ((el (W.take (W.length - 1)) (((W.length - 1) - 1))))) : Nat) : Int)) rfl rfl rfl (fun v1546 hw1545 => x_load1 T.na3 rfl ((hF1525.cells.elem enN_len (i := (el (W.take (W.length - 1)) (((W.length - 1) - 1)))) (by omega)).ext hw1545)) ?_
              refine d_q (v := .slice ((some ⟨bl, 0, none⟩)) ns.length ns.length) rfl rfl (fun _ => x_move rfl) ?_
              refine d_q (v := .int .i64 (((el W ((W.length - 1))) : Nat) : Int)) rfl rfl (fun _ => x_move rfl) ?_
              refine d_q (v := .pointer (some ⟨bl, 0 + ((el W ((W.length - 1)))) * 1, none⟩)) rfl rfl (fun _ => x_index T.sl38 rfl rfl (by omega)) ?_
              refine d_l (v := .int .i64 (((el Lo ((el W ((W.length - 1))))) : Nat) : Int)) rfl rfl rfl (fun v1548 hw1547 => x_load1 T.na3 rfl ((hF1525.cells.elem enN_len (i := (el W ((W.length - 1)))) (by omega)).ext hw1547)) ?_
              refine d_q (v := .int .i64 (((min ((el Lo ((el (W.take (W.length - 1)) (((W.length - 1) - 1)))))) ((el Lo ((el W ((W.length - 1))))))) : Nat) : Int)) rfl rfl (fun _ => x_minN rfl rfl) ?_
              refine d_q (v := .pointer (some ⟨bl, 0 + ((el (W.take (W.length - 1)) (((W.length - 1) - 1)))) * 1, none⟩)) rfl rfl (fun _ => x_index T.sl38 rfl rfl (by omega)) ?_
              refine d_e (by decide) (d_s' rfl rfl (e_stO (v := .int .i64 (((min ((el Lo ((el (W.take (W.length - 1)) (((W.length - 1) - 1)))))) ((el Lo ((el W ((W.length - 1))))))) : Nat) : Int)) (u := (min ((el Lo ((el (W.take (W.length - 1)) (((W.length - 1) - 1)))))) ((el Lo ((el W ((W.length - 1)))))))) enN_len T.sz3 rfl rfl rfl hF1525 (by first | omega | (rw [List.length_set]; omega)) (by rfl) ?_))
              intro w1549 _ hP1550 hB1551
              have hs1552 := hP1550.size
              have hF1553 := hF1523.pt hP1550 (by first | (intro e; have := (hF1523.lt e).1; clear e; omega) | (simp [Value.ownBlock]; omega))
              have hF1554 := hF1524.pt hP1550 (by first | (intro e; have := (hF1524.lt e).1; clear e; omega) | (simp [Value.ownBlock]; omega))
              have hF1555 := hF1526.pt hP1550 (by omega)
              have hF1556 := hF1527.pt hP1550 (by omega)
              have hF1557 := hF1528.pt hP1550 (by omega)
              have hE1560 : Below w0.heap.size w0 w1549 := hP1550.below hE1529 (by omega)
              have hz1561 := hE1560.le
              refine ⟨need_no (by kernel_rfl), ?_⟩
              refine d_done ?_
              refine kn1516 _ _ ?_
              refine gotoS ?_
              refine kg1215 2 _ (bp, bl, bs, bn, lo1, (P2.set ((el (O.take m) ((m - 1)))) (((pts : Nat) : Int))), (Lo.set ((el (W.take (W.length - 1)) (((W.length - 1) - 1)))) ((min ((el Lo ((el (W.take (W.length - 1)) (((W.length - 1) - 1)))))) ((el Lo ((el W ((W.length - 1))))))))), Se, Nx, (W.take (W.length - 1)), (O.take (m - 1)), cnt, (pts + 1), rt, (el W ((W.length - 1))), .slice a1228 ((W.length - 1)) c1229, .slice a1232 ((m - 1)) c1233) _ (by decide) ⟨rfl, rfl, rfl, rfl, rfl, rfl, rfl, rfl, rfl, rfl, rfl, rfl, rfl, trivial⟩ ⟨hE1560, ?_⟩ ?_
              ·
                try dsimp only
                have hLW := LIclose rfl (outN_lt hends) hL (by rw [outN_len]; assumption) (by assumption) hPo hm0 (by assumption)
                have hLL := hLW.on (u := (el W (W.length - 1))) rfl (by omega) (el W (W.length - 1))
                rw [hW2l] at hLL
                exact ⟨by omega, by omega, by omega, by omega, by omega, by omega, by omega, by omega, by omega, by omega, by omega, by omega, by omega, by omega, by omega, hF1557, hB1551, hF1555, hF1556, by rw [hW2l]; exact hF1553, by rw [List.length_take, Nat.min_eq_left (by omega)]; exact hF1554, (fun b h1 h2 => hne b (ob_len.trans h1) (ob_len.trans h2)), hLL⟩
              ·
                try dsimp only
                exact mu_pop _ _ _ _ (by omega) _
          ·
            refine skip ?_
            refine kn1462 _ _ ?_
            refine kn1450 _ ((m - 1), (P2.set ((el (O.take m) ((m - 1)))) (((pts : Nat) : Int)))) _ ⟨rfl, rfl, rfl, rfl, rfl, rfl, rfl, rfl, rfl, rfl, rfl, rfl, rfl, trivial⟩ ⟨hE1496, ?_⟩ ?_
            ·
              try dsimp only
              exact ⟨hF1491, hF1490, hB1488, hF1492, hF1493, hF1494, by omega, LInext hL hPo hm0 (by assumption)⟩
            ·
              (try dsimp only); omega
      ·
        refine skip ?_
        refine kn1406 _ _ ?_
        refine seqG fun Q1562 kn1563 kr1564 ke1565 kg1566 => ?_
        refine seqG fun Q1567 kn1568 kr1569 ke1570 kg1571 => ?_
        refine region ?_
        refine st_q (v := .slice a1228 ((W.length - 1)) c1229) (x_move rfl) ?_
        refine st_q (v := .int .i64 (((W.length - 1) : Nat) : Int)) (x_lenSl rfl Try.underlying38 rfl) ?_
        refine st_q (v := .bool (decide (((W.length - 1)) = 0))) (x_eqlN rfl rfl) ?_
        refine st_nil ?_
        refine kn1568 _ _ ?_
        refine cnd (p := ((W.length - 1)) = 0) rfl (fun h1572 => ?_) (fun h1572 => ?_)
        ·
          refine gotoS ?_
          refine kg1566 _ _ _ ?_
          refine kg1215 0 _ (bp, bl, bs, bn, lo1, P, Lo, Se, Nx, (W.take (W.length - 1)), O, cnt, pts, rt, (el W ((W.length - 1))), .slice a1228 ((W.length - 1)) c1229, .slice a1232 O.length c1233) _ (by decide) ⟨rfl, rfl, rfl, rfl, rfl, rfl, rfl, rfl, rfl, rfl, rfl, rfl, rfl, trivial⟩ ⟨hE1425, ?_⟩ ?_
          ·
            try dsimp only
            exact absurd (show (W.take (W.length - 1)).length = 0 by omega) (hL.notlast rfl (by assumption))
          ·
            try dsimp only
            exact mu_pop _ _ _ _ (by omega) _
        ·
          refine skip ?_
          refine kn1563 _ _ ?_
          refine seqG fun Q1573 kn1574 kr1575 ke1576 kg1577 => ?_
          refine regionD1 [6, 13, 15, 19] [0, 1, 2, 3, 4, 5, 6, 7, 8, 9, 10, 11, 12, 13, 14, 15, 16, 17, 18, 19, 20, 21] (.one 0 (.one 1 (.one 2 (.one 3 (.one 4 (.one 5 (.one 6 (.one 7 (.one 8 (.one 9 (.one 10 (.one 11 (.one 12 (.one 13 (.one 14 (.one 15 (.one 16 (.one 17 (.one 18 (.one 19 (.one 20 (.one 21 (.one 22 .done))))))))))))))))))))))) (by kernel_rfl) (by kernel_rfl) ?_
          intro w1578 hx1579 hs1580
          have hF1581 := hF1418.ext hx1579
          have hF1582 := hF1419.ext hx1579
          have hF1583 := hF1420.ext hx1579
          have hF1584 := hF1421.ext hx1579
          have hF1585 := hF1422.ext hx1579
          have hF1586 := hF1423.ext hx1579
          have hF1587 := hF1424.ext hx1579
          have hE1588 : Below w0.heap.size w0 w1578 := hx1579.e hE1425 (Nat.le_refl _)
          have hz1589 := hE1588.le
          have hs1590 := hx1579.size
          have hS1591 : Ext w1578 w1578 := Below.refl _ _
          refine d_q (v := .slice ((some ⟨bl, 0, none⟩)) ns.length ns.length) rfl rfl (fun _ => x_move rfl) ?_
          refine d_q (v := .slice a1228 ((W.length - 1)) c1229) rfl rfl (fun _ => x_move rfl) ?_
          refine d_q (v := .slice a1228 ((W.length - 1)) c1229) rfl rfl (fun _ => x_move rfl) ?_
          refine d_q (v := .int .i64 (((W.length - 1) : Nat) : Int)) rfl rfl (fun _ => x_lenSl rfl Try.underlying38 rfl) ?_
          refine d_q (v := .int .i64 ((((W.length - 1) - 1) : Nat) : Int)) rfl rfl (fun _ => x_subN rfl rfl (by omega) (by omega)) ?_
          obtain ⟨b1592, o1593, ha1594, hc1595⟩ := hF1585.src.at (by omega)
          refine d_q (v := .pointer (some ⟨b1592, o1593 + (((W.length - 1) - 1)) * 1, none⟩)) rfl rfl (fun _ => x_index' T.sl38 rfl ha1594 rfl (by omega)) ?_
          have hwt := LIwt hL (j := W.length - 1 - 1) (by omega)
          refine d_l (v := .int .i64 (((el (W.take (W.length - 1)) (((W.length - 1) - 1))) : Nat) : Int)) rfl rfl rfl (fun v1597 hw1596 => x_load1 T.na3 rfl ((hc1595.elem enN_len (i := ((W.length - 1) - 1)) (by omega)).ext hw1596)) ?_
          refine d_q (v := .slice ((some ⟨bl, 0, none⟩)) ns.length ns.length) rfl rfl (fun _ => x_move rfl) ?_
          refine d_q (v := .slice a1228 ((W.length - 1)) c1229) rfl rfl (fun _ => x_move rfl) ?_
          refine d_q (v := .slice a1228 ((W.length - 1)) c1229) rfl rfl (fun _ => x_move rfl) ?_
          refine d_q (v := .int .i64 (((W.length - 1) : Nat) : Int)) rfl rfl (fun _ => x_lenSl rfl Try.underlying38 rfl) ?_
          refine d_q (v := .int .i64 ((((W.length - 1) - 1) : Nat) : Int)) rfl rfl (fun _ => x_subN rfl rfl (by omega) (by omega)) ?_
          obtain ⟨b1598, o1599, ha1600, hc1601⟩ := hF1585.src.at (by omega)
          refine d_q (v := .pointer (some ⟨b1598, o1599 + (((W.length - 1) - 1)) * 1, none⟩)) rfl rfl (fun _ => x_index' T.sl38 rfl ha1600 rfl (by omega)) ?_
          refine d_l (v := .int .i64 (((el (W.take (W.length - 1)) (((W.length - 1) - 1))) : Nat) : Int)) rfl rfl rfl (fun v1603 hw1602 => x_load1 T.na3 rfl ((hc1601.elem enN_len (i := ((W.length - 1) - 1)) (by omega)).ext hw1602)) ?_
          refine d_q (v := .pointer (some ⟨bl, 0 + ((el (W.take (W.length - 1)) (((W.length - 1) - 1)))) * 1, none⟩)) rfl rfl (fun _ => x_index T.sl38 rfl rfl (by omega)) ?_
          refine d_l (v := .int .i64 (((el Lo ((el (W.take (W.length - 1)) (((W.length - 1) - 1))))) : Nat) : Int)) rfl rfl rfl (fun v1605 hw1604 => x_load1 T.na3 rfl ((hF1582.cells.elem enN_len (i := (el (W.take (W.length - 1)) (((W.length - 1) - 1)))) (by omega)).ext hw1604)) ?_
          refine d_q (v := .slice ((some ⟨bl, 0, none⟩)) ns.length ns.length) rfl rfl (fun _ => x_move rfl) ?_
          refine d_q (v := .int .i64 (((el W ((W.length - 1))) : Nat) : Int)) rfl rfl (fun _ => x_move rfl) ?_
          refine d_q (v := .pointer (some ⟨bl, 0 + ((el W ((W.length - 1)))) * 1, none⟩)) rfl rfl (fun _ => x_index T.sl38 rfl rfl (by omega)) ?_
          refine d_l (v := .int .i64 (((el Lo ((el W ((W.length - 1))))) : Nat) : Int)) rfl rfl rfl (fun v1607 hw1606 => x_load1 T.na3 rfl ((hF1582.cells.elem enN_len (i := (el W ((W.length - 1)))) (by omega)).ext hw1606)) ?_
          refine d_q (v := .int .i64 (((min ((el Lo ((el (W.take (W.length - 1)) (((W.length - 1) - 1)))))) ((el Lo ((el W ((W.length - 1))))))) : Nat) : Int)) rfl rfl (fun _ => x_minN rfl rfl) ?_
          refine d_q (v := .pointer (some ⟨bl, 0 + ((el (W.take (W.length - 1)) (((W.length - 1) - 1)))) * 1, none⟩)) rfl rfl (fun _ => x_index T.sl38 rfl rfl (by omega)) ?_
          refine d_e (by decide) (d_s' rfl rfl (e_stO (v := .int .i64 (((min ((el Lo ((el (W.take (W.length - 1)) (((W.length - 1) - 1)))))) ((el Lo ((el W ((W.length - 1))))))) : Nat) : Int)) (u := (min ((el Lo ((el (W.take (W.length - 1)) (((W.length - 1) - 1)))))) ((el Lo ((el W ((W.length - 1)))))))) enN_len T.sz3 rfl rfl rfl hF1582 (by first | omega | (rw [List.length_set]; omega)) (by rfl) ?_))
          intro w1608 _ hP1609 hB1610
          have hs1611 := hP1609.size
          have hF1612 := hF1581.pt hP1609 (by omega)
          have hF1613 := hF1583.pt hP1609 (by omega)
          have hF1614 := hF1584.pt hP1609 (by omega)
          have hF1615 := hF1585.pt hP1609 (by first | (intro e; have := (hF1585.lt e).1; clear e; omega) | (simp [Value.ownBlock]; omega))
          have hF1616 := hF1586.pt hP1609 (by first | (intro e; have := (hF1586.lt e).1; clear e; omega) | (simp [Value.ownBlock]; omega))
          have hE1620 : Below w0.heap.size w0 w1608 := hP1609.below hE1588 (by omega)
          have hz1621 := hE1620.le
          refine ⟨need_no (by kernel_rfl), ?_⟩
          refine d_done ?_
          refine kn1574 _ _ ?_
          refine gotoS ?_
          refine kg1215 2 _ (bp, bl, bs, bn, lo1, P, (Lo.set ((el (W.take (W.length - 1)) (((W.length - 1) - 1)))) ((min ((el Lo ((el (W.take (W.length - 1)) (((W.length - 1) - 1)))))) ((el Lo ((el W ((W.length - 1))))))))), Se, Nx, (W.take (W.length - 1)), O, cnt, pts, rt, (el W ((W.length - 1))), .slice a1228 ((W.length - 1)) c1229, .slice a1232 O.length c1233) _ (by decide) ⟨rfl, rfl, rfl, rfl, rfl, rfl, rfl, rfl, rfl, rfl, rfl, rfl, rfl, trivial⟩ ⟨hE1620, ?_⟩ ?_
          ·
            try dsimp only
            have hLL := hL.leave rfl (by rw [outN_len]; assumption) (by assumption) (el W (W.length - 1)) (W' := W.take (W.length - 1)) rfl
            rw [hW2l] at hLL
            exact ⟨by omega, by omega, by omega, by omega, by omega, by omega, by omega, by omega, by omega, by omega, by omega, by omega, by omega, by omega, by omega, hF1612, hB1610, hF1613, hF1614, by rw [hW2l]; exact hF1615, hF1616, (fun b h1 h2 => hne b (ob_len.trans h1) (ob_len.trans h2)), hLL⟩
          ·
            try dsimp only
            exact mu_pop _ _ _ _ (by omega) _

end Go.Proofs.Ytknfjgbipfpnjaa
