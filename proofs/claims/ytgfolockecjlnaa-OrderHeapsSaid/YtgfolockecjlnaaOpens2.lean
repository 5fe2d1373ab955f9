/- A list of orders to heaps, that came in, opened. -/
import Derived.Test.YtgfolockecjlnaaPairs2
import Derived.Test.YtgfolockecjlnaaOpens
namespace Go.Eng
open Go.RowKit
theorem cells_flat {α : Type} [Inhabited α] {enc : α → List Value} {k : Nat} (hk : ∀ x, (enc x).length = k) (hk0 : 0 < k) {w : World} {b o : Nat} {xs : List α} (h0 : 0 < xs.length)
    (h : ∀ i, i < xs.length → ∀ j, j < k → w.cell? ⟨b, o + (i * k + j), none⟩ = (enc (el xs i))[j]?) : Cells w.heap b o (flat enc xs) := by
  refine cells_of (by rw [flat_length hk]; exact Nat.mul_pos h0 hk0) fun j hj => ?_
  have hi : j / k < xs.length := Nat.div_lt_of_lt_mul (by rw [Nat.mul_comm, ← flat_length hk xs]; exact hj)
  have hm := Nat.mod_lt j hk0
  have e : j / k * k + j % k = j := by rw [Nat.mul_comm]; exact Nat.div_add_mod j k
  have g := flat_get? hk xs (j / k) (j % k) hi hm
  have t := h (j / k) hi (j % k) hm
  rw [e] at g t
  rw [t, ← g, List.getElem?_eq_getElem hj]
end Go.Eng
namespace Go.Proofs.Ytgfolockecjlnaa
open Go.RowKit Go.Eng Go.OrdPure Go.ChangeShapes Go.WideShapes
theorem Try.cells48 : Try.prog.cellsOf 48 = 4 := by kernel_rfl
theorem Try.bytes48 : Try.prog.bytesOf 48 = 32 := by kernel_rfl
/-- one order -/
theorem open_op {H : Type} {enc : TypeId × Value → H} {W : World} {cs : List Value} {y : DataW H × List MemPlace} {fuel : Nat} (hl : cs.length = 4) (h : DataW.trod enc Try.prog W 0 (fun _ => true) true fuel 48 cs = some y) : ∃ z : O4, cs = enO z := by
  obtain ⟨xs, n, _, _, _, hxl, hf⟩ := DataW.trod_struct Try.underlying48 h
  match xs, hxl, cs, hl with
  | [y0, y1, y2], _, [v0, v1, v2, v3], _ =>
    have g0 := hf 0 _ rfl
    have g1 := hf 1 _ rfl
    have g2 := hf 2 _ rfl
    simp [Try.cells3, Try.cells31] at g0 g1 g2
    obtain ⟨xs2, n2, _, _, _, hxl2, hf2⟩ := DataW.trod_struct Try.underlying31 g2
    match xs2, hxl2 with
    | [z0, z1], _ =>
      have k0 := hf2 0 _ rfl
      have k1 := hf2 1 _ rfl
      simp [Try.cells3] at k0 k1
      obtain ⟨a, ea, _⟩ := DataW.trod_int Try.underlying3 g0
      obtain ⟨b, eb, _⟩ := DataW.trod_int Try.underlying3 g1
      obtain ⟨c, ec, _⟩ := DataW.trod_int Try.underlying3 k0
      obtain ⟨d, ed, _⟩ := DataW.trod_int Try.underlying3 k1
      simp only [List.cons.injEq, and_true] at ea eb ec ed
      subst ea; subst eb; subst ec; subst ed
      exact ⟨(a, b, c, d), rfl⟩
/-- a list of orders that came in -/
theorem open_ops {H : Type} {enc : TypeId × Value → H} {W : World} {v : Value} {d : DataW H} {p : List MemPlace} {ts : List TypeId} {ds : List (DataW H)} {j : Nat}
    (hv : ∃ a l c, v = .slice a l c) (hf : DataW.Trod enc Try.prog W 0 (fun _ => true) true 39 v d p)
    (hsz : (DataW.weightsEach Try.prog ts ds).all (· ≤ reachBytes) = true) (ht : ts[j]? = some 39) (hd : ds[j]? = some d) :
    ∃ xs : List O4, xs.length ≤ 4398046510976 ∧ Src W.heap v xs.length 4 (flat enO xs) := by
  obtain ⟨a0, len, cap, rfl⟩ := hv
  obtain ⟨fuel, hf⟩ := hf
  rcases Go.Deep.open_slice Try.underlying39 hf with ⟨hcs, hx⟩ | ⟨a, len', cap', m, n, D, Pl, hcs, _, hl, hm, hmm, hx, hcell⟩
  · simp [Value.cells] at hcs
    obtain ⟨rfl, rfl, rfl⟩ := hcs
    exact ⟨[], Nat.zero_le _, Src.nil _ _⟩
  · simp [Value.cells] at hcs
    obtain ⟨rfl, rfl, rfl⟩ := hcs
    simp only [Prod.mk.injEq, Try.cells48] at hx
    obtain ⟨hx1, hx2⟩ := hx
    subst hx1
    simp only [if_true] at hmm
    subst hmm
    have hreach : m * 32 ≤ 140737488351232 := by
      have := sized_slice hsz ht hd Try.underlying39
      rw [Try.bytes48] at this
      simp only [List.length_map, List.length_range] at this
      have e : reachBytes = 140737488351232 := rfl
      omega
    have each : ∀ i, i < m → ∃ z : O4, ∀ j, j < 4 → W.cell? ((a.add (i * 4)).add j) = (enO z)[j]? := by
      intro i hi
      obtain ⟨cs', h1, h2⟩ := hcell i hi
      rw [Try.cells48] at h1
      obtain ⟨_, hlen, hc⟩ := World.cells?_some h1
      obtain ⟨z, rfl⟩ := open_op hlen h2
      exact ⟨z, fun j hj => by simpa using hc j (by omega)⟩
    obtain ⟨f, hf⟩ := Go.Deep.choose_lt each
    have hlx : ((List.range len).map f).length = len := by simp
    refine ⟨(List.range len).map f, by omega, by rw [flat_length enO_len], some a, m, by rw [hlx], by omega, hm, ?_⟩
    by_cases h0 : len = 0
    · exact .inl (by omega)
    · obtain ⟨b, off, spot⟩ := a
      have hc0 := hf 0 (by omega) 0 (by decide)
      have hspot : spot = none := by simpa [Addr.add] using World.cell?_spot (hc0.trans (List.getElem?_eq_getElem (show 0 < (enO (f 0)).length by rw [enO_len]; decide)))
      subst hspot
      refine .inr ⟨b, off, rfl, cells_flat enO_len (by decide) (by omega) fun i hi j hj => ?_⟩
      rw [hlx] at hi
      have := hf i (by omega) j hj
      rw [Go.Deep.add_add, add_plain] at this
      rw [el_range hi, this]
end Go.Proofs.Ytgfolockecjlnaa
