/- Arguments opened: a list of texts, a list of things, a thing. -/
import Derived.Test.YtgfolockecjlnaaFns
import Derived.ProofKit
import Derived.SliceStrings
import Derived.SizedLaws
import Derived.Deep.SlicePairs
namespace Go.Eng
open Go.RowKit
theorem cells_of {w : World} {b o : Nat} {cs : List Value} (h0 : 0 < cs.length) (h : ∀ j (hj : j < cs.length), w.cell? ⟨b, o + j, none⟩ = some cs[j]) : Cells w.heap b o cs := by
  have h1 := h 0 h0
  unfold World.cell? at h1
  dsimp only at h1
  cases hb : w.heap[b]? with
  | none => rw [hb] at h1; cases h1
  | some ob =>
    cases ob with
    | cells c e fr =>
      refine ⟨c, e, fr, hb, fun j hj => ?_⟩
      have h2 := h j hj
      simpa [World.cell?, hb] using h2
    | _ => rw [hb] at h1; cases h1
end Go.Eng
namespace Go.Proofs.Ytgfolockecjlnaa
open Go.ChangeShapes Go.WideShapes Go.ChangeAt Go.RowKit Go.Eng
theorem Try.own : ownKnob Try.prog.godebug = none := by kernel_rfl
theorem Try.laidOut : laidOutB Try.prog = true := by kernel_rfl
theorem Try.cells9 : Try.prog.cellsOf 9 = 1 := by kernel_rfl
theorem Try.bytes9 : Try.prog.bytesOf 9 = 16 := by kernel_rfl
theorem flat_strs (xs : List ByteArray) : flat enS xs = xs.map Value.string := by
  induction xs with
  | nil => rfl
  | cons x xs ih => simp only [flat, List.flatMap_cons, List.map_cons] at *; rw [ih]; rfl
/-- a list of texts that came in -/
theorem open_texts {H : Type} {enc : TypeId × Value → H} {W : World} {v : Value} {d : DataW H} {p : List MemPlace} {ts : List TypeId} {ds : List (DataW H)} {j : Nat}
    (hv : ∃ a l c, v = .slice a l c) (hf : DataW.Trod enc Try.prog W 0 (fun _ => true) true 22 v d p)
    (hsz : (DataW.weightsEach Try.prog ts ds).all (· ≤ reachBytes) = true) (ht : ts[j]? = some 22) (hd : ds[j]? = some d) :
    ∃ xs : List ByteArray, xs.length ≤ 8796093021952 ∧ Src W.heap v xs.length 1 (flat enS xs) := by
  obtain ⟨a0, len, cap, rfl⟩ := hv
  obtain ⟨fuel, hf⟩ := hf
  rcases open_strings Try.underlying22 Try.underlying9 Try.cells9 hf with ⟨hcs, hx⟩ | ⟨a, len', cap', ss, hcs, _, hl, hm, hz, hx, hcell, _⟩
  · simp [Value.cells] at hcs
    obtain ⟨rfl, rfl, rfl⟩ := hcs
    exact ⟨[], by simp, Src.nil _ _⟩
  · simp [Value.cells] at hcs
    obtain ⟨rfl, rfl, rfl⟩ := hcs
    simp only [Prod.mk.injEq] at hx
    obtain ⟨rfl, rfl⟩ := hx
    simp only [if_true] at hz
    have hreach : cap * 16 ≤ 140737488351232 := by
      have := sized_slice hsz ht hd Try.underlying22
      rw [Try.bytes9] at this
      simp only [strs, List.length_map, List.length_take, List.length_drop, reachBytes] at this
      omega
    have hlx : (ss.take len).length = len := by rw [List.length_take]; omega
    refine ⟨ss.take len, by omega, ?_⟩
    refine ⟨by rw [flat_strs, List.length_map, Nat.mul_one], some a, cap, by rw [hlx], by omega, hm, ?_⟩
    by_cases h0 : len = 0
    · exact .inl (by omega)
    · obtain ⟨b, off, spot⟩ := a
      have hspot : spot = none := by simpa [Addr.add] using World.cell?_spot (hcell 0 (by omega))
      subst hspot
      refine .inr ⟨b, off, rfl, cells_of (by rw [flat_strs, List.length_map]; omega) fun j hj => ?_⟩
      rw [flat_strs, List.length_map, hlx] at hj
      have := hcell j (by omega)
      rw [add_plain] at this
      rw [this]
      simp only [flat_strs, List.getElem_map, List.getElem_take]
      simp [List.getD_eq_getElem?_getD, List.getElem?_eq_getElem (show j < ss.length by omega)]

theorem Try.cells31 : Try.prog.cellsOf 31 = 2 := by kernel_rfl
theorem Try.cells3 : Try.prog.cellsOf 3 = 1 := by kernel_rfl
theorem Try.bytes31 : Try.prog.bytesOf 31 = 16 := by kernel_rfl
theorem flatT_get : ∀ (xs : List (Int × Int)) (i : Nat), i < xs.length → (flat enT xs)[i * 2]? = some (.int .i64 (el xs i).1) ∧ (flat enT xs)[i * 2 + 1]? = some (.int .i64 (el xs i).2)
  | [], _, h => absurd h (by simp)
  | x :: xs, 0, _ => ⟨rfl, rfl⟩
  | x :: xs, i + 1, h => by
    have ih := flatT_get xs i (by simpa using h)
    have e : flat enT (x :: xs) = .int .i64 x.1 :: .int .i64 x.2 :: flat enT xs := rfl
    have e2 : el (x :: xs) (i + 1) = el xs i := rfl
    rw [e, e2, show (i + 1) * 2 = i * 2 + 1 + 1 by omega]
    simpa using ih
theorem cells_things {w : World} {b o : Nat} {xs : List (Int × Int)} (h0 : 0 < xs.length) (h : ∀ i, i < xs.length → w.cell? ⟨b, o + i * 2, none⟩ = some (.int .i64 (el xs i).1) ∧ w.cell? ⟨b, o + (i * 2 + 1), none⟩ = some (.int .i64 (el xs i).2)) : Cells w.heap b o (flat enT xs) := by
  have hl := flat_length enT_len xs
  refine cells_of (by omega) fun j hj => ?_
  have hi : j / 2 < xs.length := by omega
  obtain ⟨g0, g1⟩ := flatT_get xs (j / 2) hi
  obtain ⟨k0, k1⟩ := h (j / 2) hi
  rcases (by omega : j = j / 2 * 2 ∨ j = j / 2 * 2 + 1) with e | e
  · rw [← e] at g0 k0
    rw [List.getElem?_eq_getElem hj] at g0
    rw [k0, ← g0]
  · rw [← e] at g1 k1
    rw [List.getElem?_eq_getElem hj] at g1
    rw [k1, ← g1]
def intOf : Value → Int
  | .int _ x => x
  | _ => 0
theorem el_range {α : Type} [Inhabited α] {f : Nat → α} {n i : Nat} (h : i < n) : el ((List.range n).map f) i = f i := by simp [el, List.getD_eq_getElem?_getD, h]
/-- a list of things that came in -/
theorem open_things {H : Type} {enc : TypeId × Value → H} {W : World} {v : Value} {d : DataW H} {p : List MemPlace} {ts : List TypeId} {ds : List (DataW H)} {j : Nat}
    (hv : ∃ a l c, v = .slice a l c) (hf : DataW.Trod enc Try.prog W 0 (fun _ => true) true 29 v d p)
    (hsz : (DataW.weightsEach Try.prog ts ds).all (· ≤ reachBytes) = true) (ht : ts[j]? = some 29) (hd : ds[j]? = some d) :
    ∃ xs : List (Int × Int), xs.length ≤ 8796093021952 ∧ Src W.heap v xs.length 2 (flat enT xs) := by
  obtain ⟨a0, len, cap, rfl⟩ := hv
  obtain ⟨fuel, hf⟩ := hf
  rcases Go.Deep.open_slice_pairs Try.underlying29 Try.underlying31 Try.cells31 rfl rfl Try.cells3 Try.cells3 hf with ⟨hcs, hx⟩ | ⟨a, len', cap', m, n, V0, V1, D0, D1, P0, P1, hcs, _, hl, hm, hmm, hx, hcell⟩
  · simp [Value.cells] at hcs
    obtain ⟨rfl, rfl, rfl⟩ := hcs
    exact ⟨[], by simp, Src.nil _ _⟩
  · simp [Value.cells] at hcs
    obtain ⟨rfl, rfl, rfl⟩ := hcs
    simp only [Prod.mk.injEq] at hx
    obtain ⟨rfl, rfl⟩ := hx
    simp only [if_true] at hmm
    subst hmm
    have hreach : m * 16 ≤ 140737488351232 := by
      have := sized_slice hsz ht hd Try.underlying29
      rw [Try.bytes31] at this
      simp only [List.length_map, List.length_range, reachBytes] at this
      omega
    have hlx : ((List.range len).map fun i => (intOf (V0 i), intOf (V1 i))).length = len := by simp
    refine ⟨(List.range len).map fun i => (intOf (V0 i), intOf (V1 i)), by omega, by rw [flat_length enT_len], some a, m, by rw [hlx], by omega, hm, ?_⟩
    by_cases h0 : len = 0
    · exact .inl (by omega)
    · obtain ⟨b, off, spot⟩ := a
      have hspot : spot = none := by simpa [Addr.add] using World.cell?_spot (hcell 0 (by omega)).1
      subst hspot
      refine .inr ⟨b, off, rfl, cells_things (by omega) fun i hi => ?_⟩
      rw [hlx] at hi
      obtain ⟨c0, c1, t0, t1⟩ := hcell i (by omega)
      obtain ⟨x, ex, _⟩ := DataW.trod_int Try.underlying3 t0
      obtain ⟨y, ey, _⟩ := DataW.trod_int Try.underlying3 t1
      simp only [List.cons.injEq, and_true] at ex ey
      rw [add_plain] at c0 c1
      rw [el_range hi, ex, ey]
      rw [ex] at c0
      rw [ey] at c1
      exact ⟨c0, c1⟩
/-- a thing that came in -/
theorem open_thing {H : Type} {enc : TypeId × Value → H} {W : World} {r : Reach} {base : Nat} {v : Value} {d : DataW H} {p : List MemPlace}
    (hok : Value.okWide Try.prog W r base 31 v) (hf : DataW.Trod enc Try.prog W 0 (fun _ => true) true 31 v d p) : ∃ z : Int × Int, v = .agg (enT z).toArray := by
  simp only [Value.okWide, Try.underlying31] at hok
  obtain ⟨cs, rfl, hsize, _⟩ := hok
  rw [Try.cells31] at hsize
  obtain ⟨fuel, hf⟩ := hf
  obtain ⟨xs, n, _, _, _, hxl, hq⟩ := DataW.trod_struct Try.underlying31 hf
  obtain ⟨l⟩ := cs
  match l, hsize with
  | [v0, v1], _ =>
    have g0 := hq 0 _ rfl
    have g1 := hq 1 _ rfl
    simp [Try.cells3, Value.cells] at g0 g1 hxl
    match xs, hxl with
    | [y0, y1], _ =>
      obtain ⟨x, ex, _⟩ := DataW.trod_int Try.underlying3 g0
      obtain ⟨y, ey, _⟩ := DataW.trod_int Try.underlying3 g1
      simp only [List.cons.injEq, and_true] at ex ey
      subst ex; subst ey
      exact ⟨(x, y), rfl⟩
end Go.Proofs.Ytgfolockecjlnaa
