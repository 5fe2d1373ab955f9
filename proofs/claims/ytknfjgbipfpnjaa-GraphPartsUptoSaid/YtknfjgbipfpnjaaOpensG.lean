/- Arguments opened: a list of names, a list of edges. -/
import Derived.Test.YtknfjgbipfpnjaaG17
import Derived.ProofKit
import Derived.SliceStrings
import Derived.JoinedCond
import Derived.Deep.SlicePairs
namespace Go.Eng
open Go.RowKit
theorem cells_of {w : World} {b o : Nat} {cs : List Value} (h0 : 0 < cs.length) (h : ∀ j (hj : j < cs.length), w.cell? ⟨b, o + j, none⟩ = some cs[j]) : Cells w.heap b o cs := by
  have h1 := h 0 h0
  unfold World.cell? at h1
  dsimp only at h1
  cases hb : w.heap[b]? with
  | none => rw [hb] at h1; cases h1
  | some ob =>
    cases ob with
    | cells c e fr =>
      refine ⟨c, e, fr, hb, fun j hj => ?_⟩
      have h2 := h j hj
      simpa [World.cell?, hb] using h2
    | _ => rw [hb] at h1; cases h1
end Go.Eng
namespace Go.Proofs.Ytknfjgbipfpnjaa
open Go.ChangeShapes Go.WideShapes Go.ChangeAt Go.RowKit Go.Eng
theorem Try.own : ownKnob Try.prog.godebug = none := by kernel_rfl
theorem Try.laidOut : laidOutB Try.prog = true := by kernel_rfl
theorem Try.cells9 : Try.prog.cellsOf 9 = 1 := by kernel_rfl
theorem Try.cells4 : Try.prog.cellsOf 4 = 1 := by kernel_rfl
theorem Try.cells47 : Try.prog.cellsOf 47 = 3 := by kernel_rfl
theorem bulk_one {H : Type} (d : DataW H) : 1 ≤ Rows.uptoBulk d := by
  cases d with
  | lit l => cases l <;> simp [Rows.uptoBulk]
  | _ => simp [Rows.uptoBulk]
theorem bulk_length {H : Type} (l : List (DataW H)) : l.length ≤ Rows.uptoBulkAll l := by
  induction l with
  | nil => simp [Rows.uptoBulkAll]
  | cons x r ih => have := bulk_one x; simp only [Rows.uptoBulkAll, List.length_cons]; omega
theorem bulk4 {H : Type} (l : List (DataW H)) (h : ∀ d ∈ l, 4 ≤ Rows.uptoBulk d) : 4 * l.length ≤ Rows.uptoBulkAll l := by
  induction l with
  | nil => simp [Rows.uptoBulkAll]
  | cons x r ih => have := h x (by simp); have := ih fun d hd => h d (List.mem_cons_of_mem _ hd); simp only [Rows.uptoBulkAll, List.length_cons]; omega
theorem flat_strs (xs : List ByteArray) : flat enS xs = xs.map Value.string := by
  induction xs with
  | nil => rfl
  | cons x xs ih => simp only [flat, List.flatMap_cons, List.map_cons] at *; rw [ih]; rfl
theorem el_range {α : Type} [Inhabited α] {f : Nat → α} {n i : Nat} (h : i < n) : el ((List.range n).map f) i = f i := by simp [el, List.getD_eq_getElem?_getD, h]
/-- a list of texts that came in: no longer than its bulk -/
theorem open_names {H : Type} {enc : TypeId × Value → H} {W : World} {v : Value} {d : DataW H} {p : List MemPlace}
    (hv : ∃ a l c, v = .slice a l c) (hf : DataW.Trod enc Try.prog W 0 (fun _ => true) true 22 v d p) :
    ∃ xs : List ByteArray, xs.length + 1 ≤ Rows.uptoBulk d ∧ FitS xs ∧ Src W.heap v xs.length 1 (flat enS xs) := by
  obtain ⟨a0, len, cap, rfl⟩ := hv
  obtain ⟨fuel, hf⟩ := hf
  rcases open_strings Try.underlying22 Try.underlying9 Try.cells9 hf with ⟨hcs, hx⟩ | ⟨a, len', cap', ss, hcs, _, hl, hm, hz, hx, hcell, hsz⟩
  · simp [Value.cells] at hcs
    obtain ⟨rfl, rfl, rfl⟩ := hcs
    exact ⟨[], by have := bulk_one d; simpa using this, fun s hs => by simp at hs, Src.nil _ _⟩
  · simp [Value.cells] at hcs
    obtain ⟨rfl, rfl, rfl⟩ := hcs
    simp only [Prod.mk.injEq] at hx
    obtain ⟨rfl, rfl⟩ := hx
    simp only [if_true] at hz
    have hlx : (ss.take len).length = len := by rw [List.length_take]; omega
    refine ⟨ss.take len, ?_, fun s hs => hsz s (List.mem_of_mem_take hs), ?_⟩
    · have := bulk_length (strs (H := H) (ss.take len))
      simp only [Rows.uptoBulk, strs, List.length_map] at this ⊢
      omega
    refine ⟨by rw [flat_strs, List.length_map, Nat.mul_one], some a, cap, by rw [hlx], by omega, hm, ?_⟩
    by_cases h0 : len = 0
    · exact .inl (by omega)
    · obtain ⟨b, off, spot⟩ := a
      have hspot : spot = none := by simpa [Addr.add] using World.cell?_spot (hcell 0 (by omega))
      subst hspot
      refine .inr ⟨b, off, rfl, cells_of (by rw [flat_strs, List.length_map]; omega) fun j hj => ?_⟩
      rw [flat_strs, List.length_map, hlx] at hj
      have := hcell j (by omega)
      rw [add_plain] at this
      rw [this]
      simp only [flat_strs, List.getElem_map, List.getElem_take]
      simp [List.getD_eq_getElem?_getD, List.getElem?_eq_getElem (show j < ss.length by omega)]
theorem flatE_get : ∀ (xs : List Edge) (i : Nat), i < xs.length → (flat enE xs)[i * 3]? = some (.string (el xs i).1) ∧ (flat enE xs)[i * 3 + 1]? = some (.string (el xs i).2.1) ∧ (flat enE xs)[i * 3 + 2]? = some (.bool (el xs i).2.2)
  | [], _, h => absurd h (by simp)
  | x :: xs, 0, _ => ⟨rfl, rfl, rfl⟩
  | x :: xs, i + 1, h => by
    have ih := flatE_get xs i (by simpa using h)
    have e : flat enE (x :: xs) = .string x.1 :: .string x.2.1 :: .bool x.2.2 :: flat enE xs := rfl
    have e2 : el (x :: xs) (i + 1) = el xs i := rfl
    rw [e, e2, show (i + 1) * 3 = i * 3 + 1 + 1 + 1 by omega]
    simpa using ih
theorem cells_edges {w : World} {b o : Nat} {xs : List Edge} (h0 : 0 < xs.length) (h : ∀ i, i < xs.length → w.cell? ⟨b, o + i * 3, none⟩ = some (.string (el xs i).1) ∧ w.cell? ⟨b, o + (i * 3 + 1), none⟩ = some (.string (el xs i).2.1) ∧ w.cell? ⟨b, o + (i * 3 + 2), none⟩ = some (.bool (el xs i).2.2)) : Cells w.heap b o (flat enE xs) := by
  have hl := flat_length enE_len xs
  refine cells_of (by omega) fun j hj => ?_
  have hi : j / 3 < xs.length := by omega
  obtain ⟨g0, g1, g2⟩ := flatE_get xs (j / 3) hi
  obtain ⟨k0, k1, k2⟩ := h (j / 3) hi
  rcases (by omega : j = j / 3 * 3 ∨ j = j / 3 * 3 + 1 ∨ j = j / 3 * 3 + 2) with e | e | e
  · rw [← e] at g0 k0
    rw [List.getElem?_eq_getElem hj] at g0
    rw [k0, ← g0]
  · rw [← e] at g1 k1
    rw [List.getElem?_eq_getElem hj] at g1
    rw [k1, ← g1]
  · rw [← e] at g2 k2
    rw [List.getElem?_eq_getElem hj] at g2
    rw [k2, ← g2]
/-- a list of edges that came in: no longer than its bulk -/
theorem open_edges {H : Type} {enc : TypeId × Value → H} {W : World} {v : Value} {d : DataW H} {p : List MemPlace}
    (hv : ∃ a l c, v = .slice a l c) (hf : DataW.Trod enc Try.prog W 0 (fun _ => true) true 23 v d p) :
    ∃ xs : List Edge, 4 * xs.length + 1 ≤ Rows.uptoBulk d ∧ FitE xs ∧ Src W.heap v xs.length 3 (flat enE xs) := by
  obtain ⟨a0, len, cap, rfl⟩ := hv
  obtain ⟨fuel, hf⟩ := hf
  rcases Go.Deep.open_slice Try.underlying23 hf with ⟨hcs, hx⟩ | ⟨a, len', cap', m, n, D, Pl, hcs, _, hl, hm, hmm, hx, hcell⟩
  · simp [Value.cells] at hcs
    obtain ⟨rfl, rfl, rfl⟩ := hcs
    exact ⟨[], by have := bulk_one d; simpa using this, fun s hs => by simp at hs, Src.nil _ _⟩
  · simp [Value.cells] at hcs
    obtain ⟨rfl, rfl, rfl⟩ := hcs
    simp only [Prod.mk.injEq] at hx
    obtain ⟨rfl, rfl⟩ := hx
    simp only [if_true] at hmm
    subst hmm
    have each : ∀ i, i < m → ∃ q : Edge, W.cell? (a.add (i * 3)) = some (.string q.1) ∧ W.cell? (a.add (i * 3 + 1)) = some (.string q.2.1) ∧ W.cell? (a.add (i * 3 + 2)) = some (.bool q.2.2) ∧ q.1.size ≤ maxLen ∧ q.2.1.size ≤ maxLen ∧ 4 ≤ Rows.uptoBulk (D i) := by
      intro i hi
      obtain ⟨cs', h1, h2⟩ := hcell i hi
      rw [Try.cells47] at h1
      obtain ⟨_, hlen, hc⟩ := World.cells?_some h1
      obtain ⟨xs, k, hk, hxy, _, hxl, hq⟩ := DataW.trod_struct Try.underlying47 h2
      match xs, hxl, cs', hlen with
      | [y0, y1, y2], _, [v0, v1, v2], _ =>
        have g0 := hq 0 _ rfl
        have g1 := hq 1 _ rfl
        have g2 := hq 2 _ rfl
        simp [Try.cells9, Try.cells4] at g0 g1 g2
        have e0 := hc 0 (by omega)
        have e1 := hc 1 (by omega)
        have e2 := hc 2 (by omega)
        rw [Go.Deep.add_add] at e0 e1 e2
        obtain ⟨s0, x0, _, z0⟩ := DataW.trod_string Try.underlying9 g0
        obtain ⟨s1, x1, _, z1⟩ := DataW.trod_string Try.underlying9 g1
        obtain ⟨s2, x2, _⟩ := DataW.trod_bool Try.underlying4 g2
        simp only [List.cons.injEq, and_true] at x0 x1 x2
        subst x0; subst x1; subst x2
        have hD := (Prod.mk.inj hxy).1
        have b0 := bulk_one y0.1
        have b1 := bulk_one y1.1
        have b2 := bulk_one y2.1
        refine ⟨(s0, s1, s2), by simpa using e0, by simpa using e1, by simpa using e2, z0, z1, ?_⟩
        rw [hD]; simp only [List.map_cons, List.map_nil, Rows.uptoBulk, Rows.uptoBulkAll]; omega
    obtain ⟨q, hq⟩ := Go.Deep.choose_lt each
    have hlx : ((List.range len).map q).length = len := by simp
    refine ⟨(List.range len).map q, ?_, ?_, by rw [flat_length enE_len], some a, m, by rw [hlx], by omega, hm, ?_⟩
    · have := bulk4 ((List.range len).map D) fun d hd => by
        obtain ⟨i, hi, rfl⟩ := List.mem_map.1 hd
        exact (hq i (by have := List.mem_range.1 hi; omega)).2.2.2.2.2
      simp only [Rows.uptoBulk, List.length_map, List.length_range] at this ⊢
      omega
    · intro e he
      obtain ⟨i, hi, rfl⟩ := List.mem_map.1 he
      have hi := List.mem_range.1 hi
      exact ⟨(hq i (by omega)).2.2.2.1, (hq i (by omega)).2.2.2.2.1⟩
    by_cases h0 : len = 0
    · exact .inl (by omega)
    · obtain ⟨b, off, spot⟩ := a
      have hspot : spot = none := by simpa [Addr.add] using World.cell?_spot (hq 0 (by omega)).1
      subst hspot
      refine .inr ⟨b, off, rfl, cells_edges (by omega) fun i hi => ?_⟩
      rw [hlx] at hi
      obtain ⟨c0, c1, c2, _⟩ := hq i (by omega)
      rw [add_plain] at c0 c1 c2
      rw [el_range hi]
      exact ⟨c0, c1, c2⟩
end Go.Proofs.Ytknfjgbipfpnjaa
