/- The argument opened, and the tables that the row lists. -/
import Derived.Test.YtcgmhpenjjheiaaGreatDoorPF
import Derived.Test.YtcgmhpenjjheiaaGreatDoorCards
import Derived.Test.YtcgmhpenjjheiaaGreatDoorTie
import Derived.WalkKit
import Derived.ProofKit
import Derived.OpenShut
import Derived.SliceStrings
import Derived.ChangeSlices
import Derived.JoinedCond
import Derived.Deep.SlicePairs
import Derived.Deep.DeepHandedRow
import Derived.Lib.LaidTab
import Derived.Stop.LaidErr
namespace Go.Proofs.YtcgmhpenjjheiaaGreatDoor
open Go.ChangeShapes Go.WideShapes Go.ChangeAt Go.RowKit Go.Eng Go.PT
theorem cells_of {w : World} {b o : Nat} {cs : List Value} (h0 : 0 < cs.length) (h : ∀ j (hj : j < cs.length), w.cell? ⟨b, o + j, none⟩ = some cs[j]) : Cells w.heap b o cs := by
  have h1 := h 0 h0
  unfold World.cell? at h1
  dsimp only at h1
  cases hb : w.heap[b]? with
  | none => rw [hb] at h1; cases h1
  | some ob =>
    cases ob with
    | cells c e fr =>
      refine ⟨c, e, fr, hb, fun j hj => ?_⟩
      have h2 := h j hj
      simpa [World.cell?, hb] using h2
    | _ => rw [hb] at h1; cases h1
theorem bulk_one {H : Type} (d : DataW H) : 1 ≤ Rows.uptoBulk d := by
  cases d with
  | lit l => cases l <;> simp [Rows.uptoBulk]
  | _ => simp [Rows.uptoBulk]
theorem bulk_length {H : Type} (l : List (DataW H)) : l.length ≤ Rows.uptoBulkAll l := by
  induction l with
  | nil => simp [Rows.uptoBulkAll]
  | cons x r ih => have := bulk_one x; simp only [Rows.uptoBulkAll, List.length_cons]; omega
theorem flat_strs (xs : List ByteArray) : flat eS.enc xs = xs.map Value.string := by
  induction xs with
  | nil => rfl
  | cons x xs ih => simp only [flat, List.flatMap_cons, List.map_cons] at *; rw [ih]; rfl
theorem flat_ints (xs : List Int) : flat eI.enc xs = xs.map (Value.int .i64) := by
  induction xs with
  | nil => rfl
  | cons x xs ih => simp only [flat, List.flatMap_cons, List.map_cons] at *; rw [ih]; rfl
theorem add_plain' (b o i : Nat) : (⟨b, o, none⟩ : Addr).add i = ⟨b, o + i, none⟩ := by simp [Addr.add]
theorem gC9 : Tryz.prog.cellsOf 9 = 1 := by kernel_rfl
theorem gC3 : Tryz.prog.cellsOf 3 = 1 := by kernel_rfl
theorem gC56 : Tryz.prog.cellsOf 56 = 1 := by kernel_rfl
theorem gC63 : Tryz.prog.cellsOf 63 = 1 := by kernel_rfl
theorem gC62 : Tryz.prog.cellsOf 62 = 2 := by kernel_rfl
theorem gC65 : Tryz.prog.cellsOf 65 = 5 := by kernel_rfl
section
variable {H : Type} {enc : TypeId × Value → H} {W : World} {u : Value} {y : DataW H × List MemPlace} {fuel : Nat} {cs : List Value}
/-- a list of texts -/
theorem open_txt (hf : DataW.trod enc Tryz.prog W 0 (fun _ => true) true fuel 56 [u] = some y) :
    ∃ a c, ∃ xs : List ByteArray, u = .slice a xs.length c ∧ xs.length + 1 ≤ Rows.uptoBulk y.1 ∧ Srm eS W.heap a xs.length c xs := by
  rcases open_strings Tryz.underlying56 Tryz.underlying9 gC9 hf with ⟨hcs, hx⟩ | ⟨a, len, cap, ss, hcs, _, hl, hm, hz, hx, hcell, hsz⟩
  · simp only [List.cons.injEq, and_true] at hcs
    subst hcs
    exact ⟨none, 0, [], rfl, by have := bulk_one y.1; simpa using this, Src.nil _ _⟩
  · simp only [List.cons.injEq, and_true] at hcs
    subst hcs
    subst hx
    simp only [if_true] at hz
    have hlx : (ss.take len).length = len := by rw [List.length_take]; omega
    refine ⟨some a, cap, ss.take len, by rw [hlx], ?_, ?_⟩
    · have := bulk_length (strs (H := H) (ss.take len))
      simp only [Rows.uptoBulk, strs, List.length_map] at this ⊢
      omega
    refine ⟨by rw [flat_strs, List.length_map, Nat.mul_one], some a, cap, rfl, by rw [hlx]; exact hl, hm, ?_⟩
    by_cases h0 : len = 0
    · exact .inl (hlx.trans h0)
    · obtain ⟨b, off, spot⟩ := a
      have hspot : spot = none := by simpa [Addr.add] using World.cell?_spot (hcell 0 (by omega))
      subst hspot
      refine .inr ⟨b, off, rfl, cells_of (by rw [flat_strs, List.length_map]; show 0 < (ss.take len).length; rw [hlx]; omega) fun j hj => ?_⟩
      rw [flat_strs, List.length_map, hlx] at hj
      have := hcell j (by omega)
      rw [add_plain'] at this
      rw [this, ← List.getElem?_eq_getElem, flat_strs, List.getElem?_map, List.getElem?_take, if_pos hj, List.getElem?_eq_getElem (show j < ss.length by omega)]
      simp [List.getD_eq_getElem?_getD, List.getElem?_eq_getElem (show j < ss.length by omega)]
/-- a list of numbers -/
theorem open_num (hf : DataW.trod enc Tryz.prog W 0 (fun _ => true) true fuel 63 [u] = some y) :
    ∃ a c, ∃ xs : List Int, u = .slice a xs.length c ∧ xs.length + 1 ≤ Rows.uptoBulk y.1 ∧ Srm eI W.heap a xs.length c xs := by
  rcases open_ints Tryz.underlying63 Tryz.underlying3 gC3 hf with ⟨hcs, hx⟩ | ⟨a, len, cap, ss, hcs, _, hl, hm, hz, hx, hcell, hsz⟩
  · simp only [List.cons.injEq, and_true] at hcs
    subst hcs
    exact ⟨none, 0, [], rfl, by have := bulk_one y.1; simpa using this, Src.nil _ _⟩
  · simp only [List.cons.injEq, and_true] at hcs
    subst hcs
    subst hx
    simp only [if_true] at hz
    have hlx : (ss.take len).length = len := by rw [List.length_take]; omega
    refine ⟨some a, cap, ss.take len, by rw [hlx], ?_, ?_⟩
    · have := bulk_length (lits (H := H) .i64 (ss.take len))
      simp only [Rows.uptoBulk, lits, List.length_map] at this ⊢
      omega
    refine ⟨by rw [flat_ints, List.length_map, Nat.mul_one], some a, cap, rfl, by rw [hlx]; exact hl, hm, ?_⟩
    by_cases h0 : len = 0
    · exact .inl (hlx.trans h0)
    · obtain ⟨b, off, spot⟩ := a
      have hspot : spot = none := by simpa [Addr.add] using World.cell?_spot (hcell 0 (by omega))
      subst hspot
      refine .inr ⟨b, off, rfl, cells_of (by rw [flat_ints, List.length_map]; show 0 < (ss.take len).length; rw [hlx]; omega) fun j hj => ?_⟩
      rw [flat_ints, List.length_map, hlx] at hj
      have := hcell j (by omega)
      rw [add_plain'] at this
      rw [this, ← List.getElem?_eq_getElem, flat_ints, List.getElem?_map, List.getElem?_take, if_pos hj, List.getElem?_eq_getElem (show j < ss.length by omega)]
      simp [List.getD_eq_getElem?_getD, List.getElem?_eq_getElem (show j < ss.length by omega)]
set_option maxRecDepth 100000 in
/-- a fact -/
theorem open_fact (hf : DataW.trod enc Tryz.prog W 0 (fun _ => true) true fuel 62 cs = some y) :
    ∃ (p : ByteArray) (a : Option Addr) (c : Nat) (xs : List ByteArray), cs = [.string p, .slice a xs.length c] ∧ xs.length + 1 ≤ Rows.uptoBulk y.1 ∧ Srm eS W.heap a xs.length c xs := by
  obtain ⟨xs, k, hk, hxy, hcl, hxl, hq⟩ := DataW.trod_struct Tryz.underlying62 hf
  rw [gC62] at hcl
  match xs, hxl, cs, hcl with
  | [y0, y1], _, [v0, v1], _ =>
    have g0 := hq 0 _ rfl
    have g1 := hq 1 _ rfl
    simp [gC9, gC56] at g0 g1
    obtain ⟨s0, x0, _, z0⟩ := DataW.trod_string Tryz.underlying9 g0
    simp only [List.cons.injEq, and_true] at x0
    subst x0
    obtain ⟨a, c, xs, rfl, h1, h2⟩ := open_txt g1
    have hD := congrArg Prod.fst hxy
    have hb : Rows.uptoBulk y1.1 ≤ Rows.uptoBulk y.1 := by rw [hD]; simp only [List.map_cons, List.map_nil, Rows.uptoBulk, Rows.uptoBulkAll]; omega
    exact ⟨s0, a, c, xs, rfl, by omega, h2⟩
set_option maxRecDepth 100000 in
/-- a step -/
theorem open_step (hf : DataW.trod enc Tryz.prog W 0 (fun _ => true) true fuel 65 cs = some y) :
    ∃ x : Rw, cs = eR.enc x ∧ x.1.t.length ≤ Rows.uptoBulk y.1 ∧ x.1.v.length ≤ Rows.uptoBulk y.1 ∧ x.1.f.length ≤ Rows.uptoBulk y.1 ∧ Stq W.heap x := by
  obtain ⟨xs, k, hk, hxy, hcl, hxl, hq⟩ := DataW.trod_struct Tryz.underlying65 hf
  rw [gC65] at hcl
  match xs, hxl, cs, hcl with
  | [y0, y1, y2, y3], _, [v0, v1, v2, v3, v4], _ =>
    have g0 := hq 0 _ rfl
    have g1 := hq 1 _ rfl
    have g2 := hq 2 _ rfl
    have g3 := hq 3 _ rfl
    simp [gC62, gC3, gC56, gC63] at g0 g1 g2 g3
    obtain ⟨p, ta, tc, t, e0, b0, t0⟩ := open_fact g0
    simp only [List.cons.injEq, and_true] at e0
    obtain ⟨rfl, rfl⟩ := e0
    obtain ⟨n1, x1, _, _⟩ := DataW.trod_int Tryz.underlying3 g1
    simp only [List.cons.injEq, and_true] at x1
    subst x1
    obtain ⟨va, vc, v, rfl, b2, t2⟩ := open_txt g2
    obtain ⟨fa, fc, f, rfl, b3, t3⟩ := open_num g3
    have hD := congrArg Prod.fst hxy
    have hb : Rows.uptoBulk y0.1 ≤ Rows.uptoBulk y.1 ∧ Rows.uptoBulk y2.1 ≤ Rows.uptoBulk y.1 ∧ Rows.uptoBulk y3.1 ≤ Rows.uptoBulk y.1 := by rw [hD]; simp only [List.map_cons, List.map_nil, Rows.uptoBulk, Rows.uptoBulkAll]; omega
    exact ⟨(⟨p, t, n1, v, f⟩, ⟨ta, tc, va, vc, fa, fc⟩), rfl, by show t.length ≤ _; omega, by show v.length ≤ _; omega, by show f.length ≤ _; omega, t0, t2, t3⟩
theorem el_range {α : Type} [Inhabited α] {f : Nat → α} {n i : Nat} (h : i < n) : el ((List.range n).map f) i = f i := by simp [el, List.getD_eq_getElem?_getD, h]
/-- steps -/
theorem open_steps (hf : DataW.trod enc Tryz.prog W 0 (fun _ => true) true fuel 22 [u] = some y) :
    ∃ a c, ∃ L : List Rw, u = .slice a L.length c ∧ L.length + 1 ≤ Rows.uptoBulk y.1 ∧ (∀ i, i < L.length → (el L i).1.t.length ≤ Rows.uptoBulk y.1 ∧ (el L i).1.v.length ≤ Rows.uptoBulk y.1 ∧ (el L i).1.f.length ≤ Rows.uptoBulk y.1) ∧ Sts W.heap a L.length c L := by
  rcases Go.Deep.open_slice Tryz.underlying22 hf with ⟨hcs, hx⟩ | ⟨a, len, cap, m, n, D, Pl, hcs, _, hl, hm, hmm, hx, hcell⟩
  · simp only [List.cons.injEq, and_true] at hcs
    subst hcs
    exact ⟨none, 0, [], rfl, by have := bulk_one y.1; simpa using this, fun i hi => absurd hi (Nat.not_lt_zero i), Src.nil _ _, fun i hi => absurd hi (Nat.not_lt_zero i)⟩
  · simp only [List.cons.injEq, and_true] at hcs
    subst hcs
    subst hx
    simp only [if_true] at hmm
    subst hmm
    have each : ∀ i, i < m → ∃ x : Rw, W.cells? 0 (a.add (i * 5)) 5 = some (eR.enc x) ∧ x.1.t.length ≤ Rows.uptoBulk (D i) ∧ x.1.v.length ≤ Rows.uptoBulk (D i) ∧ x.1.f.length ≤ Rows.uptoBulk (D i) ∧ Stq W.heap x := by
      intro i hi
      obtain ⟨cs', h1, h2⟩ := hcell i hi
      rw [gC65] at h1
      obtain ⟨x, e, h3, h4, h5, h6⟩ := open_step h2
      subst e
      exact ⟨x, h1, h3, h4, h5, h6⟩
    obtain ⟨q, hq⟩ := Go.Deep.choose_lt each
    have hlx : ((List.range len).map q).length = len := by simp
    have hsum : ∀ n, n ≤ len → (∀ i, i < n → Rows.uptoBulk (D i) ≤ Rows.uptoBulkAll ((List.range n).map D)) ∧ n ≤ Rows.uptoBulkAll ((List.range n).map D) := by
      intro n
      induction n with
      | zero => intro _; exact ⟨fun i hi => by omega, Nat.zero_le _⟩
      | succ n ih =>
        intro hn
        obtain ⟨i1, i2⟩ := ih (by omega)
        have hs : Rows.uptoBulkAll ((List.range (n + 1)).map D) = Rows.uptoBulkAll ((List.range n).map D) + Rows.uptoBulk (D n) := by
          rw [List.range_succ, List.map_append]
          generalize (List.range n).map D = l
          induction l with
          | nil => simp [Rows.uptoBulkAll]
          | cons x r ih2 => simp only [List.cons_append, Rows.uptoBulkAll]; rw [ih2]; omega
        rw [hs]
        refine ⟨fun i hi => ?_, by have := bulk_one (D n); omega⟩
        by_cases e : i = n
        · subst e; omega
        · have := i1 i (by omega); omega
    obtain ⟨hs1, hs2⟩ := hsum len (Nat.le_refl _)
    refine ⟨some a, m, (List.range len).map q, by rw [hlx], ?_, fun i hi => ?_, ⟨by rw [flat_length eR.len], some a, m, rfl, by rw [hlx]; exact hl, hm, ?_⟩, fun i hi => ?_⟩
    · rw [hlx]; simp only [Rows.uptoBulk]; omega
    · rw [hlx] at hi
      rw [el_range hi]
      have h1 := hs1 i hi
      have h2 := hq i (by omega)
      simp only [Rows.uptoBulk]; omega
    · by_cases h0 : len = 0
      · exact .inl (by rw [hlx]; exact h0)
      · obtain ⟨b, off, spot⟩ := a
        have one : ∀ i, i < len → ∀ r (hr : r < 5), W.cell? ((⟨b, off, spot⟩ : Addr).add (i * 5 + r)) = (eR.enc (q i))[r]? := by
          intro i hi r hr
          obtain ⟨_, hlen, hc⟩ := World.cells?_some (hq i (by omega)).1
          have := hc r hr
          rw [Go.Deep.add_add] at this
          rw [this]
        have hspot : spot = none := by
          have := one 0 (by omega) 0 (by omega)
          simp [Addr.add] at this
          exact World.cell?_spot this
        subst hspot
        refine .inr ⟨b, off, rfl, cells_of (by rw [flat_length eR.len, hlx]; show 0 < len * 5; omega) fun j hj => ?_⟩
        have hj' : j < len * 5 := by rw [flat_length eR.len, hlx] at hj; exact hj
        have h1 := one (j / 5) (by omega) (j % 5) (by omega)
        rw [add_plain', show j / 5 * 5 + j % 5 = j by omega] at h1
        rw [h1]
        have h2 := flat_get? eR.len ((List.range len).map q) (j / 5) (j % 5) (by rw [hlx]; omega) (Nat.mod_lt _ (by decide))
        have e5 : eR.k = 5 := rfl
        rw [e5, show j / 5 * 5 + j % 5 = j by omega, el_range (by omega), List.getElem?_eq_getElem hj] at h2
        exact h2.symm
    · rw [hlx] at hi
      rw [el_range hi]
      exact (hq i (by omega)).2.2.2.2
end
end Go.Proofs.YtcgmhpenjjheiaaGreatDoor
