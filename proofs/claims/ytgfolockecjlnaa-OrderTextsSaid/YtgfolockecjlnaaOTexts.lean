/-
  The program's function inklinglaw05.OrderTexts answers true at every three lists of texts, and they read behind the call as ahead of it. No condition but those of the given row.
-/
import Derived.Test.YtgfolockecjlnaaTexts
import Derived.ProofKit
import Derived.SliceStrings
import Derived.SizedLaws
namespace Go.Eng
open Go.RowKit
theorem cells_of {w : World} {b o : Nat} {cs : List Value} (h0 : 0 < cs.length) (h : ∀ j (hj : j < cs.length), w.cell? ⟨b, o + j, none⟩ = some cs[j]) : Cells w.heap b o cs := by
  have h1 := h 0 h0
  unfold World.cell? at h1
  dsimp only at h1
  cases hb : w.heap[b]? with
  | none => rw [hb] at h1; cases h1
  | some ob =>
    cases ob with
    | cells c e fr =>
      refine ⟨c, e, fr, hb, fun j hj => ?_⟩
      have h2 := h j hj
      simpa [World.cell?, hb] using h2
    | _ => rw [hb] at h1; cases h1
end Go.Eng
namespace Go.Proofs.Ytgfolockecjlnaa
open Go.ChangeShapes Go.WideShapes Go.ChangeAt Go.RowKit Go.Eng
theorem Try.own : ownKnob Try.prog.godebug = none := by kernel_rfl
theorem Try.laidOut : laidOutB Try.prog = true := by kernel_rfl
theorem Try.cells9 : Try.prog.cellsOf 9 = 1 := by kernel_rfl
theorem Try.bytes9 : Try.prog.bytesOf 9 = 16 := by kernel_rfl
theorem flat_strs (xs : List ByteArray) : flat enS xs = xs.map Value.string := by
  induction xs with
  | nil => rfl
  | cons x xs ih => simp only [flat, List.flatMap_cons, List.map_cons] at *; rw [ih]; rfl
/-- a list of texts that came in -/
theorem open_texts {H : Type} {enc : TypeId × Value → H} {W : World} {v : Value} {d : DataW H} {p : List MemPlace} {ts : List TypeId} {ds : List (DataW H)} {j : Nat}
    (hv : ∃ a l c, v = .slice a l c) (hf : DataW.Trod enc Try.prog W 0 (fun _ => true) true 22 v d p)
    (hsz : (DataW.weightsEach Try.prog ts ds).all (· ≤ reachBytes) = true) (ht : ts[j]? = some 22) (hd : ds[j]? = some d) :
    ∃ xs : List ByteArray, xs.length ≤ 8796093021952 ∧ Src W.heap v xs.length 1 (flat enS xs) := by
  obtain ⟨a0, len, cap, rfl⟩ := hv
  obtain ⟨fuel, hf⟩ := hf
  rcases open_strings Try.underlying22 Try.underlying9 Try.cells9 hf with ⟨hcs, hx⟩ | ⟨a, len', cap', ss, hcs, _, hl, hm, hz, hx, hcell, _⟩
  · simp [Value.cells] at hcs
    obtain ⟨rfl, rfl, rfl⟩ := hcs
    exact ⟨[], by simp, Src.nil _ _⟩
  · simp [Value.cells] at hcs
    obtain ⟨rfl, rfl, rfl⟩ := hcs
    simp only [Prod.mk.injEq] at hx
    obtain ⟨rfl, rfl⟩ := hx
    simp only [if_true] at hz
    have hreach : cap * 16 ≤ 140737488351232 := by
      have := sized_slice hsz ht hd Try.underlying22
      rw [Try.bytes9] at this
      simp only [strs, List.length_map, List.length_take, List.length_drop, reachBytes] at this
      omega
    have hlx : (ss.take len).length = len := by rw [List.length_take]; omega
    refine ⟨ss.take len, by omega, ?_⟩
    refine ⟨by rw [flat_strs, List.length_map, Nat.mul_one], some a, cap, by rw [hlx], by omega, hm, ?_⟩
    by_cases h0 : len = 0
    · exact .inl (by omega)
    · obtain ⟨b, off, spot⟩ := a
      have hspot : spot = none := by simpa [Addr.add] using World.cell?_spot (hcell 0 (by omega))
      subst hspot
      refine .inr ⟨b, off, rfl, cells_of (by rw [flat_strs, List.length_map]; omega) fun j hj => ?_⟩
      rw [flat_strs, List.length_map, hlx] at hj
      have := hcell j (by omega)
      rw [add_plain] at this
      rw [this]
      simp only [flat_strs, List.getElem_map, List.getElem_take]
      simp [List.getD_eq_getElem?_getD, List.getElem?_eq_getElem (show j < ss.length by omega)]

set_option maxRecDepth 100000 in
theorem orderTexts_lifted (os : Os) (started : os.Started) (H : Type) (enc : TypeId × Value → H) :
    ReturnsInHanded {} Try.checked os 3 .any (Rows.orderTextsSpec.pre6 enc Try.prog Try.f3 Rows.orderTextsRow.domain false) (Rows.orderTextsSpec.post enc Try.prog Try.f3 false true false false) := by
  refine returnsInHanded_of_change_sized (C := Try.checked) Try.own started (by kernel_rfl) Try.func3
    (ChangeSpec.witness6 (enc := enc) (C := Try.checked) false ⟨#[], #[.slice none 0 0, .slice none 0 0, .slice none 0 0], []⟩ 8 (by kernel_rfl) (by kernel_rfl) (by kernel_rfl) (by kernel_rfl)) ?_
  intro W base args ds gs before hval0 hW _ hsz0 _
  have hsz : (DataW.weightsEach Try.prog (Try.f3.params.toList ++ Rows.orderTextsSpec.plain.varTypes Try.prog) (ds ++ gs)).all (· ≤ reachBytes) = true := hsz0
  clear hsz0
  have hval : ∀ (j : Nat) t v, Try.f3.params[j]? = some t → args[j]? = some v → Value.okWide Try.prog W .any base t v := hval0
  have hW' := hW
  obtain ⟨p, q, hA0, hV, rfl, _, _⟩ := hW
  have hA : DataW.TrodAll enc Try.prog W 0 (fun _ => true) true Try.f3.params.toList args.toList ds p := hA0
  rw [Try.params3] at hA hval hsz
  obtain ⟨v0, v1, v2, d0, d1, d2, p0, p1, p2, rfl, rfl, rfl, h0, h1, h2⟩ := trodAll_three hA
  obtain ⟨rfl, rfl⟩ := trodVars_none hV
  clear hA0 hval0
  simp only [List.append_nil] at hW'
  have hlt : ∀ x ∈ p0 ++ p1 ++ p2, x.block < W.heap.size := fun x hx => by simpa using hW'.lt x hx
  obtain ⟨xs, hx1, hx2⟩ := open_texts ((okWide_slice Try.underlying22 (hval 0 22 v0 rfl rfl))) h0 hsz (j := 0) rfl rfl
  obtain ⟨ys, hy1, hy2⟩ := open_texts ((okWide_slice Try.underlying22 (hval 1 22 v1 rfl rfl))) h1 hsz (j := 1) rfl rfl
  obtain ⟨zs, _, hz2⟩ := open_texts ((okWide_slice Try.underlying22 (hval 2 22 v2 rfl rfl))) h2 hsz (j := 2) rfl rfl
  refine (ordertexts3 xs ys zs v0 v1 v2 W hx2 hy2 hz2 hx1 hy1).mono fun e W' ⟨he, hb⟩ => ?_
  subst he
  refine ⟨_, rfl, _, _, _, [], p0 ++ (p1 ++ p2), [], hW', ?_, ?_, rfl, hb.frame _, fun h => by cases h⟩
  · exact trodAll_mk1 (shut_bool Try.underlying4 _)
  · exact trodAll_mk3 (Below.trod Try.laidOut (by kernel_rfl) (of_decide_eq_true (by kernel_rfl)) h0 hb fun x hx => hlt x (by simp [hx])) (Below.trod Try.laidOut (by kernel_rfl) (of_decide_eq_true (by kernel_rfl)) h1 hb fun x hx => hlt x (by simp [hx]))
      (Below.trod Try.laidOut (by kernel_rfl) (of_decide_eq_true (by kernel_rfl)) h2 hb fun x hx => hlt x (by simp [hx]))

theorem orderTexts_holds : Rows.OrderTextsSaid :=
  OpenClaim.holds_of_wide (p := Try.pinned) (s := Rows.orderTextsSpec) (c := Rows.orderTextsRow) 3 Try.f3 rfl rfl rfl rfl rfl rfl rfl ⟨rfl, rfl, rfl, rfl, rfl⟩ rfl rfl rfl rfl rfl (by kernel_rfl) Try.func3 (by kernel_rfl)
    (of_decide_eq_true (by kernel_rfl)) (by unfold Func.isWrapper; first | (rw [if_pos (by decide +kernel)]; kernel_rfl) | (rw [if_neg (by decide +kernel)]; exact ⟨rfl, rfl⟩))
    (fun os started H enc _ => orderTexts_lifted os started H enc)
#print axioms orderTexts_holds
end Go.Proofs.Ytgfolockecjlnaa
