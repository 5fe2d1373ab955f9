/- Relations and columns opened. -/
import Derived.Test.YtegpcbckiehleaaDoorOpensS
import Derived.ChangeSlices
namespace Go.Proofs.YtegpcbckiehleaaDoor
open Go.ChangeShapes Go.WideShapes Go.ChangeAt Go.RowKit Go.Eng
theorem bulk_one {H : Type} (d : DataW H) : 1 ≤ Rows.uptoBulk d := by
  cases d with
  | lit l => cases l <;> simp [Rows.uptoBulk]
  | _ => simp [Rows.uptoBulk]
theorem bulk_length {H : Type} (l : List (DataW H)) : l.length ≤ Rows.uptoBulkAll l := by
  induction l with
  | nil => simp [Rows.uptoBulkAll]
  | cons x r ih => have := bulk_one x; simp only [Rows.uptoBulkAll, List.length_cons]; omega
theorem flat_strs (xs : List ByteArray) : flat enS xs = xs.map Value.string := by
  induction xs with
  | nil => rfl
  | cons x xs ih => simp only [flat, List.flatMap_cons, List.map_cons] at *; rw [ih]; rfl
theorem el_range {α : Type} [Inhabited α] {f : Nat → α} {n i : Nat} (h : i < n) : el ((List.range n).map f) i = f i := by simp [el, List.getD_eq_getElem?_getD, h]
theorem add_plain' (b o i : Nat) : (⟨b, o, none⟩ : Addr).add i = ⟨b, o + i, none⟩ := by simp [Addr.add]
theorem gCells9 : Tryd.prog.cellsOf 9 = 1 := by kernel_rfl
theorem gCells42 : Tryd.prog.cellsOf 42 = 1 := by kernel_rfl
theorem gCells27 : Tryd.prog.cellsOf 27 = 1 := by kernel_rfl
theorem gCells3 : Tryd.prog.cellsOf 3 = 1 := by kernel_rfl
theorem gCells29 : Tryd.prog.cellsOf 29 = 3 := by kernel_rfl
/-- one of a relation's tuples -/
theorem open_row {H : Type} {enc : TypeId × Value → H} {W : World} {u : Value} {y : DataW H × List MemPlace} {fuel : Nat} (hf : DataW.trod enc Tryd.prog W 0 (fun _ => true) true fuel 42 [u] = some y) :
    ∃ x : Row, u = rv x ∧ x.2.length + 1 ≤ Rows.uptoBulk y.1 ∧ (∀ s ∈ x.2, s.size ≤ maxLen) ∧ Src W.heap (rv x) x.2.length 1 (flat enS x.2) := by
  rcases open_strings Tryd.underlying42 Tryd.underlying9 gCells9 hf with ⟨hcs, hx⟩ | ⟨a, len, cap, ss, hcs, _, hl, hm, hz, hx, hcell, hsz⟩
  · simp only [List.cons.injEq, and_true] at hcs
    subst hcs
    exact ⟨((none, 0), []), rfl, by have := bulk_one y.1; simpa using this, fun s hs => by simp at hs, Src.nil _ _⟩
  · simp only [List.cons.injEq, and_true] at hcs
    subst hcs
    subst hx
    simp only [if_true] at hz
    have hlx : (ss.take len).length = len := by rw [List.length_take]; omega
    refine ⟨((some a, cap), ss.take len), by unfold rv; rw [hlx], ?_, fun s hs => hsz s (List.mem_of_mem_take hs), ?_⟩
    · have := bulk_length (strs (H := H) (ss.take len))
      simp only [Rows.uptoBulk, strs, List.length_map] at this ⊢
      omega
    refine ⟨by rw [flat_strs, List.length_map, Nat.mul_one], some a, cap, rfl, by rw [hlx]; exact hl, hm, ?_⟩
    by_cases h0 : len = 0
    · exact .inl (hlx.trans h0)
    · obtain ⟨b, off, spot⟩ := a
      have hspot : spot = none := by simpa [Addr.add] using World.cell?_spot (hcell 0 (by omega))
      subst hspot
      refine .inr ⟨b, off, rfl, cells_of (by rw [flat_strs, List.length_map]; show 0 < (ss.take len).length; rw [hlx]; omega) fun j hj => ?_⟩
      rw [flat_strs, List.length_map, hlx] at hj
      have := hcell j (by omega)
      rw [add_plain'] at this
      rw [this]
      simp only [flat_strs, List.getElem_map, List.getElem_take]
      simp [List.getD_eq_getElem?_getD, List.getElem?_eq_getElem (show j < ss.length by omega)]
theorem flat_rows_get (L : List Row) (j : Nat) (hj : j < L.length) : (flat enR L)[j]? = some (rv (el L j)) := by
  have := flat_get? enR_len L j 0 hj (by decide)
  rw [Nat.mul_one, Nat.add_zero] at this
  rw [this]; rfl
/-- a relation's tuples -/
theorem open_rows {H : Type} {enc : TypeId × Value → H} {W : World} {u : Value} {y : DataW H × List MemPlace} {fuel : Nat} (hf : DataW.trod enc Tryd.prog W 0 (fun _ => true) true fuel 27 [u] = some y) :
    ∃ L : List Row, L.length + 1 ≤ Rows.uptoBulk y.1 ∧ (∀ x ∈ L, x.2.length ≤ Rows.uptoBulk y.1) ∧ SizeL L ∧ RowsP W.heap L ∧ Src W.heap u L.length 1 (flat enR L) := by
  rcases Go.Deep.open_slice Tryd.underlying27 hf with ⟨hcs, hx⟩ | ⟨a, len, cap, m, n, D, Pl, hcs, _, hl, hm, hmm, hx, hcell⟩
  · simp only [List.cons.injEq, and_true] at hcs
    subst hcs
    exact ⟨[], by have := bulk_one y.1; simpa using this, fun x hx => by simp at hx, fun x hx => by simp at hx, fun x hx => by simp at hx, Src.nil _ _⟩
  · simp only [List.cons.injEq, and_true] at hcs
    subst hcs
    subst hx
    simp only [if_true] at hmm
    subst hmm
    have each : ∀ i, i < m → ∃ x : Row, W.cell? (a.add i) = some (rv x) ∧ x.2.length + 1 ≤ Rows.uptoBulk (D i) ∧ (∀ s ∈ x.2, s.size ≤ maxLen) ∧ Src W.heap (rv x) x.2.length 1 (flat enS x.2) := by
      intro i hi
      obtain ⟨cs', h1, h2⟩ := hcell i hi
      rw [gCells42] at h1
      obtain ⟨_, hlen, hc⟩ := World.cells?_some h1
      match cs', hlen with
      | [v0], _ =>
        obtain ⟨x, e, h3, h4, h5⟩ := open_row h2
        have e0 := hc 0 (by omega)
        rw [Go.Deep.add_add, Nat.mul_one, Nat.add_zero] at e0
        refine ⟨x, ?_, h3, h4, h5⟩
        rw [← e]; simpa using e0
    obtain ⟨q, hq⟩ := Go.Deep.choose_lt each
    have hlx : ((List.range len).map q).length = len := by simp
    have hmem : ∀ x ∈ (List.range len).map q, ∃ i, i < len ∧ x = q i := fun x hx => by
      obtain ⟨i, hi, e⟩ := List.mem_map.1 hx
      exact ⟨i, List.mem_range.1 hi, e.symm⟩
    have hsum : ∀ n, n ≤ len → (∀ i, i < n → (q i).2.length + 1 ≤ Rows.uptoBulkAll ((List.range n).map D)) ∧ n ≤ Rows.uptoBulkAll ((List.range n).map D) := by
      intro n
      induction n with
      | zero => intro _; exact ⟨fun i hi => by omega, Nat.zero_le _⟩
      | succ n ih =>
        intro hn
        obtain ⟨i1, i2⟩ := ih (by omega)
        have hs : Rows.uptoBulkAll ((List.range (n + 1)).map D) = Rows.uptoBulkAll ((List.range n).map D) + Rows.uptoBulk (D n) := by
          rw [List.range_succ, List.map_append]
          generalize (List.range n).map D = l
          induction l with
          | nil => simp [Rows.uptoBulkAll]
          | cons x r ih2 => simp only [List.cons_append, Rows.uptoBulkAll]; rw [ih2]; omega
        rw [hs]
        have h1 := (hq n (by omega)).2.1
        refine ⟨fun i hi => ?_, by have := bulk_one (D n); omega⟩
        by_cases e : i = n
        · subst e; omega
        · have := i1 i (by omega); omega
    obtain ⟨hs1, hs2⟩ := hsum len (Nat.le_refl _)
    refine ⟨(List.range len).map q, ?_, fun x hx => ?_, fun x hx => ?_, fun x hx => ?_, by rw [flat_length enR_len], some a, m, by rw [hlx], by rw [hlx]; exact hl, hm, ?_⟩
    · rw [hlx]; simp only [Rows.uptoBulk]; omega
    · obtain ⟨i, hi, rfl⟩ := hmem x hx
      have := hs1 i hi
      simp only [Rows.uptoBulk]; omega
    · obtain ⟨i, hi, rfl⟩ := hmem x hx
      exact (hq i (by omega)).2.2.1
    · obtain ⟨i, hi, rfl⟩ := hmem x hx
      exact (hq i (by omega)).2.2.2
    by_cases h0 : len = 0
    · exact .inl (by rw [hlx]; exact h0)
    · obtain ⟨b, off, spot⟩ := a
      have hspot : spot = none := by simpa [Addr.add] using World.cell?_spot (hq 0 (by omega)).1
      subst hspot
      refine .inr ⟨b, off, rfl, cells_of (by rw [flat_length enR_len, hlx]; omega) fun j hj => ?_⟩
      have hj' : j < len := by rw [flat_length enR_len, hlx] at hj; omega
      have h1 := (hq j (by omega)).1
      rw [add_plain'] at h1
      rw [h1]
      have h2 := flat_rows_get ((List.range len).map q) j (by rw [hlx]; exact hj')
      rw [el_range hj', List.getElem?_eq_getElem hj] at h2
      exact h2.symm
set_option maxRecDepth 100000 in
/-- a relation -/
theorem open_rel {H : Type} {enc : TypeId × Value → H} {W : World} {v : Value} {d : DataW H} {p : List MemPlace} (hf : DataW.Trod enc Tryd.prog W 0 (fun _ => true) true 29 v d p) :
    ∃ (pr : ByteArray) (ar : Int) (va : Value) (L : List Row), v = .agg #[.string pr, .int .i64 ar, va] ∧ L.length + 1 ≤ Rows.uptoBulk d ∧ (∀ x ∈ L, x.2.length ≤ Rows.uptoBulk d) ∧ SizeL L ∧ RowsP W.heap L ∧ Src W.heap va L.length 1 (flat enR L) := by
  obtain ⟨fuel, hf⟩ := hf
  obtain ⟨xs, k, hk, hxy, hcl, hxl, hq⟩ := DataW.trod_struct Tryd.underlying29 hf
  have hv : ∃ cs, v = .agg cs := by
    rw [gCells29] at hcl
    cases v <;> first | exact ⟨_, rfl⟩ | (simp [Value.cells] at hcl)
  obtain ⟨cs, rfl⟩ := hv
  have hcs : (Value.agg cs).cells.toList = cs.toList := by simp [Value.cells]
  rw [hcs] at hcl hq
  rw [gCells29] at hcl
  obtain ⟨l⟩ := cs
  simp only at hcl hq
  match xs, hxl, l, hcl with
  | [y0, y1, y2], _, [v0, v1, v2], _ =>
    have g0 := hq 0 _ rfl
    have g1 := hq 1 _ rfl
    have g2 := hq 2 _ rfl
    simp [gCells9, gCells3, gCells27] at g0 g1 g2
    obtain ⟨s0, x0, _, z0⟩ := DataW.trod_string Tryd.underlying9 g0
    obtain ⟨n1, x1, _, _⟩ := DataW.trod_int Tryd.underlying3 g1
    simp only [List.cons.injEq, and_true] at x0 x1
    subst x0; subst x1
    obtain ⟨L, h1, h2, h3, h4, h5⟩ := open_rows g2
    have hD := (Prod.mk.inj hxy).1
    have hb : Rows.uptoBulk y2.1 ≤ Rows.uptoBulk d := by rw [hD]; simp only [List.map_cons, List.map_nil, Rows.uptoBulk, Rows.uptoBulkAll]; omega
    exact ⟨s0, n1, v2, L, rfl, by omega, fun x hx => Nat.le_trans (h2 x hx) hb, h3, h4, h5⟩
theorem flat_ints (xs : List Int) : flat enI xs = xs.map (Value.int .i64) := by
  induction xs with
  | nil => rfl
  | cons x xs ih => simp only [flat, List.flatMap_cons, List.map_cons] at *; rw [ih]; rfl
/-- columns -/
theorem open_cols {H : Type} {enc : TypeId × Value → H} {W : World} {v : Value} {d : DataW H} {p : List MemPlace} (hv : ∃ a l c, v = .slice a l c) (hf : DataW.Trod enc Tryd.prog W 0 (fun _ => true) true 30 v d p) :
    ∃ xs : List Int, xs.length + 1 ≤ Rows.uptoBulk d ∧ (∀ x ∈ xs, (Lit.int .i64 x).wf = true) ∧ Src W.heap v xs.length 1 (flat enI xs) := by
  obtain ⟨a0, len, cap, rfl⟩ := hv
  obtain ⟨fuel, hf⟩ := hf
  rcases open_ints Tryd.underlying30 Tryd.underlying3 gCells3 hf with ⟨hcs, hx⟩ | ⟨a, len', cap', ss, hcs, _, hl, hm, hz, hx, hcell, hsz⟩
  · simp [Value.cells] at hcs
    obtain ⟨rfl, rfl, rfl⟩ := hcs
    exact ⟨[], by have := bulk_one d; simpa using this, fun s hs => by simp at hs, Src.nil _ _⟩
  · simp [Value.cells] at hcs
    obtain ⟨rfl, rfl, rfl⟩ := hcs
    simp only [Prod.mk.injEq] at hx
    obtain ⟨rfl, rfl⟩ := hx
    simp only [if_true] at hz
    have hlx : (ss.take len).length = len := by rw [List.length_take]; omega
    refine ⟨ss.take len, ?_, fun s hs => hsz s (List.mem_of_mem_take hs), ?_⟩
    · have := bulk_length (lits (H := H) .i64 (ss.take len))
      simp only [Rows.uptoBulk, lits, List.length_map] at this ⊢
      omega
    refine ⟨by rw [flat_ints, List.length_map, Nat.mul_one], some a, cap, by rw [hlx], by omega, hm, ?_⟩
    by_cases h0 : len = 0
    · exact .inl (by omega)
    · obtain ⟨b, off, spot⟩ := a
      have hspot : spot = none := by simpa [Addr.add] using World.cell?_spot (hcell 0 (by omega))
      subst hspot
      refine .inr ⟨b, off, rfl, cells_of (by rw [flat_ints, List.length_map]; omega) fun j hj => ?_⟩
      rw [flat_ints, List.length_map, hlx] at hj
      have := hcell j (by omega)
      rw [add_plain'] at this
      rw [this]
      simp only [flat_ints, List.getElem_map, List.getElem_take]
      simp [List.getD_eq_getElem?_getD, List.getElem?_eq_getElem (show j < ss.length by omega)]
end Go.Proofs.YtegpcbckiehleaaDoor
