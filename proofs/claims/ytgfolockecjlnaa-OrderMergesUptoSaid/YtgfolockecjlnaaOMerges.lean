/-
  The program's function inklinglaw05.OrderMerges answers true at every list of lists of things of bulk at most 1048576, and it reads behind the call as ahead of it. No condition but those of the given row.
-/
import Derived.Test.YtgfolockecjlnaaLaw7
import Derived.ProofKit
import Derived.JoinedCond
import Derived.Deep.SlicePairs
import Derived.Test.YtgfolockecjlnaaOpens
namespace Go.Eng
open Go.RowKit
theorem cells_flatL {α : Type} [Inhabited α] {enc : α → List Value} {k : Nat} (hk : ∀ x, (enc x).length = k) (hk0 : 0 < k) {w : World} {b o : Nat} {xs : List α} (h0 : 0 < xs.length)
    (h : ∀ i, i < xs.length → ∀ j, j < k → w.cell? ⟨b, o + (i * k + j), none⟩ = (enc (el xs i))[j]?) : Cells w.heap b o (flat enc xs) := by
  refine cells_of (by rw [flat_length hk]; exact Nat.mul_pos h0 hk0) fun j hj => ?_
  have hi : j / k < xs.length := Nat.div_lt_of_lt_mul (by rw [Nat.mul_comm, ← flat_length hk xs]; exact hj)
  have hm := Nat.mod_lt j hk0
  have e : j / k * k + j % k = j := by rw [Nat.mul_comm]; exact Nat.div_add_mod j k
  have g := flat_get? hk xs (j / k) (j % k) hi hm
  have t := h (j / k) hi (j % k) hm
  rw [e] at g t
  rw [t, ← g, List.getElem?_eq_getElem hj]
end Go.Eng
namespace Go.Proofs.Ytgfolockecjlnaa
open Go.ChangeShapes Go.WideShapes Go.ChangeAt Go.RowKit Go.Eng
theorem bulk_one {H : Type} (d : DataW H) : 1 ≤ Rows.uptoBulk d := by
  cases d with
  | lit l => cases l <;> simp [Rows.uptoBulk]
  | _ => simp [Rows.uptoBulk]
theorem bulk_length {H : Type} (l : List (DataW H)) : l.length ≤ Rows.uptoBulkAll l := by
  induction l with
  | nil => simp [Rows.uptoBulkAll]
  | cons x r ih => have := bulk_one x; simp only [Rows.uptoBulkAll, List.length_cons]; omega
theorem bulk_append {H : Type} (l r : List (DataW H)) : Rows.uptoBulkAll (l ++ r) = Rows.uptoBulkAll l + Rows.uptoBulkAll r := by
  induction l with
  | nil => simp [Rows.uptoBulkAll]
  | cons x l ih => simp only [List.cons_append, Rows.uptoBulkAll, ih]; omega
theorem bulk_sum {H : Type} {D : Nat → DataW H} {g : Nat → Ts} : ∀ n, (∀ i, i < n → (g i).length + 1 ≤ Rows.uptoBulk (D i)) → n + ((List.range n).map g).flatten.length ≤ Rows.uptoBulkAll ((List.range n).map D)
  | 0, _ => by simp
  | n + 1, h => by
    have ih := bulk_sum n (fun i hi => h i (by omega))
    have h1 := h n (by omega)
    rw [List.range_succ, List.map_append, List.map_append, List.flatten_append, List.length_append, bulk_append]
    simp only [List.map_cons, List.map_nil, List.flatten_cons, List.flatten_nil, List.append_nil, Rows.uptoBulkAll]
    omega
/-- one of the lists -/
theorem open_inner {H : Type} {enc : TypeId × Value → H} {W : World} {u : Value} {y : DataW H × List MemPlace} {fuel : Nat} (hf : DataW.trod enc Try.prog W 0 (fun _ => true) true fuel 29 [u] = some y) :
    ∃ q : S3 × Ts, u = sv q.1 ∧ q.1.2.1 = q.2.length ∧ q.2.length + 1 ≤ Rows.uptoBulk y.1 ∧ Src W.heap (sv q.1) q.2.length 2 (flat enT q.2) := by
  rcases Go.Deep.open_slice_pairs Try.underlying29 Try.underlying31 Try.cells31 rfl rfl Try.cells3 Try.cells3 hf with ⟨hcs, hx⟩ | ⟨a, len, cap, m, n, V0, V1, D0, D1, P0, P1, hcs, _, hl, hm, hmm, hx, hcell⟩
  · simp only [List.cons.injEq, and_true] at hcs
    subst hcs
    exact ⟨((none, 0, 0), []), rfl, rfl, bulk_one _, Src.nil _ _⟩
  · simp only [List.cons.injEq, and_true] at hcs
    subst hcs
    subst hx
    simp only [if_true] at hmm
    subst hmm
    have hlx : ((List.range len).map fun i => (intOf (V0 i), intOf (V1 i))).length = len := by simp
    refine ⟨((some a, len, m), (List.range len).map fun i => (intOf (V0 i), intOf (V1 i))), rfl, hlx.symm, ?_, by rw [flat_length enT_len], some a, m, by rw [hlx]; rfl, by rw [hlx]; exact hl, hm, ?_⟩
    · have := bulk_length ((List.range len).map fun i => DataW.agg [D0 i, D1 i])
      simp only [Rows.uptoBulk, List.length_map, List.length_range] at this ⊢
      omega
    by_cases h0 : len = 0
    · exact .inl (by rw [hlx]; exact h0)
    · obtain ⟨b, off, spot⟩ := a
      have hspot : spot = none := by simpa [Addr.add] using World.cell?_spot (hcell 0 (by omega)).1
      subst hspot
      refine .inr ⟨b, off, rfl, cells_things (xs := (List.range len).map fun i => (intOf (V0 i), intOf (V1 i))) (by omega) fun i hi => ?_⟩
      rw [hlx] at hi
      obtain ⟨c0, c1, t0, t1⟩ := hcell i (by omega)
      obtain ⟨x, ex, _⟩ := DataW.trod_int Try.underlying3 t0
      obtain ⟨y, ey, _⟩ := DataW.trod_int Try.underlying3 t1
      simp only [List.cons.injEq, and_true] at ex ey
      rw [add_plain] at c0 c1
      rw [el_range hi, ex, ey]
      rw [ex] at c0
      rw [ey] at c1
      exact ⟨c0, c1⟩
theorem Try.cells29 : Try.prog.cellsOf 29 = 1 := by kernel_rfl
/-- a list of lists that came in -/
theorem open_lists {H : Type} {enc : TypeId × Value → H} {W : World} {v : Value} {d : DataW H} {p : List MemPlace}
    (hv : ∃ a l c, v = .slice a l c) (hf : DataW.Trod enc Try.prog W 0 (fun _ => true) true 63 v d p) :
    ∃ (ls : List Ts) (vs : List S3), vs.length = ls.length ∧ ls.length + ls.flatten.length ≤ Rows.uptoBulk d ∧ Src W.heap v vs.length 1 (flat enV vs) ∧
      ∀ k, k < ls.length → (el vs k).2.1 = (el ls k).length ∧ Src W.heap (sv (el vs k)) (el ls k).length 2 (flat enT (el ls k)) := by
  obtain ⟨a0, len, cap, rfl⟩ := hv
  obtain ⟨fuel, hf⟩ := hf
  rcases Go.Deep.open_slice Try.underlying63 hf with ⟨hcs, hx⟩ | ⟨a, len', cap', m, n, D, Pl, hcs, _, hl, hm, hmm, hx, hcell⟩
  · simp [Value.cells] at hcs
    obtain ⟨rfl, rfl, rfl⟩ := hcs
    exact ⟨[], [], rfl, Nat.zero_le _, Src.nil _ _, fun k h => absurd h (by simp)⟩
  · simp [Value.cells] at hcs
    obtain ⟨rfl, rfl, rfl⟩ := hcs
    simp only [Prod.mk.injEq, Try.cells29] at hx
    obtain ⟨hx1, hx2⟩ := hx
    subst hx1
    simp only [if_true] at hmm
    subst hmm
    have each : ∀ i, i < m → ∃ q : S3 × Ts, W.cell? (a.add i) = some (sv q.1) ∧ q.1.2.1 = q.2.length ∧ q.2.length + 1 ≤ Rows.uptoBulk (D i) ∧ Src W.heap (sv q.1) q.2.length 2 (flat enT q.2) := by
      intro i hi
      obtain ⟨cs', h1, h2⟩ := hcell i hi
      rw [Try.cells29, Nat.mul_one] at h1
      obtain ⟨_, hlen, hc⟩ := World.cells?_some h1
      match cs', hlen with
      | [u], _ =>
        obtain ⟨q, rfl, q1, q2, q3⟩ := open_inner h2
        exact ⟨q, by have := hc 0 (by omega); simpa [Go.Deep.add_add] using this, q1, q2, q3⟩
    obtain ⟨f, hf⟩ := Go.Deep.choose_lt each
    have hlx : ((List.range len).map fun i => (f i).2).length = len := by simp
    have hvx : ((List.range len).map fun i => (f i).1).length = len := by simp
    refine ⟨(List.range len).map fun i => (f i).2, (List.range len).map fun i => (f i).1, by rw [hlx, hvx], ?_, ⟨by rw [flat_length enV_len], some a, m, by rw [hvx], by rw [hvx]; exact hl, hm, ?_⟩, fun k hk => ?_⟩
    · have := bulk_sum (D := D) (g := fun i => (f i).2) len (fun i hi => (hf i (by omega)).2.2.1)
      rw [hlx]
      simp only [Rows.uptoBulk]
      omega
    · by_cases h0 : len = 0
      · exact .inl (by rw [hvx]; exact h0)
      · obtain ⟨b, off, spot⟩ := a
        have hspot : spot = none := by simpa [Addr.add] using World.cell?_spot (hf 0 (by omega)).1
        subst hspot
        refine .inr ⟨b, off, rfl, cells_flatL enV_len (by decide) (by omega) fun i hi j hj => ?_⟩
        rw [hvx] at hi
        obtain rfl : j = 0 := by omega
        have := (hf i (by omega)).1
        rw [add_plain] at this
        rw [Nat.mul_one, Nat.add_zero, this, el_range hi]; rfl
    · rw [hlx] at hk
      rw [el_range hk, el_range hk]
      exact ⟨(hf k (by omega)).2.1, (hf k (by omega)).2.2.2⟩
set_option maxRecDepth 100000 in
theorem orderMerges_lifted (os : Os) (started : os.Started) (H : Type) (enc : TypeId × Value → H) (F : Stop.Interp) :
    ReturnsInHanded {} Try.checked os 7 .any ((Rows.OpenSpec.upto Rows.orderMergesSpec).pre6 enc Try.prog Try.f7 Rows.orderMergesUptoRow.domain false) (((Rows.OpenSpec.upto Rows.orderMergesSpec).at F).post enc Try.prog Try.f7 false true false false) := by
  refine returnsInHanded_of_cond (C := Try.checked) (s := Rows.OpenSpec.upto Rows.orderMergesSpec) (k := Rows.uptoSmall) rfl Try.own started (by kernel_rfl) Try.func7
    (OpenSpec.witness (enc := enc) (C := Try.checked) (s := Rows.OpenSpec.upto Rows.orderMergesSpec) (k := Rows.uptoSmall) rfl false ⟨#[], #[.slice none 0 0], []⟩ 8 (by kernel_rfl) (by kernel_rfl) (by kernel_rfl)
      (x := ([.nil], [], [])) (by kernel_rfl) rfl (by kernel_rfl)) ?_
  intro W base args ds gs before hval0 hW _ hk _
  have hval : ∀ (j : Nat) t v, Try.f7.params[j]? = some t → args[j]? = some v → Value.okWide Try.prog W .any base t v := hval0
  have hW' := hW
  obtain ⟨p, q, hA0, hV, rfl, _, _⟩ := hW
  have hA : DataW.TrodAll enc Try.prog W 0 (fun _ => true) true Try.f7.params.toList args.toList ds p := hA0
  rw [Try.params7] at hA hval
  obtain ⟨v0, d0, rfl, rfl, h0⟩ := trodAll_one hA
  obtain ⟨rfl, rfl⟩ := trodVars_none hV
  clear hA0 hval0
  simp only [List.append_nil] at hW' hk
  have hb : Rows.uptoBulkAll [d0] ≤ 1048576 := of_decide_eq_true hk
  simp only [Rows.uptoBulkAll] at hb
  have hlt : ∀ x ∈ p, x.block < W.heap.size := fun x hx => by simpa using hW'.lt x hx
  obtain ⟨ls, vs, hx1, hx2, hx3, hx4⟩ := open_lists (okWide_slice Try.underlying63 (hval 0 63 v0 rfl rfl)) h0
  refine (ordermerges7 ls vs v0 W hx3 hx1 hx4 (by omega)).mono fun e W' ⟨he, hb⟩ => ?_
  subst he
  refine ⟨_, rfl, _, _, _, [], p, [], hW', ?_, ?_, rfl, hb.frame _, fun h => by cases h⟩
  · exact trodAll_mk1 (shut_bool Try.underlying4 _)
  · exact trodAll_mk1 (Below.trod Try.laidOut (by kernel_rfl) (of_decide_eq_true (by kernel_rfl)) h0 hb fun x hx => hlt x hx)

theorem orderMerges_holds : Rows.OrderMergesUptoSaid :=
  OpenClaim.holds_of_cond 7 Try.f7 rfl rfl rfl rfl rfl rfl rfl ⟨rfl, rfl, rfl, rfl, rfl⟩ rfl rfl rfl rfl rfl (by kernel_rfl) Try.func7 (by kernel_rfl)
    (of_decide_eq_true (by kernel_rfl)) (by unfold Func.isWrapper; first | (rw [if_pos (by decide +kernel)]; kernel_rfl) | (rw [if_neg (by decide +kernel)]; exact ⟨rfl, rfl⟩))
    (fun os started H enc _ F => orderMerges_lifted os started H enc F)
#print axioms orderMerges_holds
end Go.Proofs.Ytgfolockecjlnaa
