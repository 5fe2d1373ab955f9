/-
  The function SaveFrames: its world, its argument opened, its contract lifted to the row.
-/
import Derived.Test.YtfejieikpnljoaaGreatDoorTie
import Derived.Test.YtfejieikpnljoaaGreatDoorCards
import Derived.Test.YtfejieikpnljoaaGreatDoorFR
import Derived.ProofKit
import Derived.WalkKit
import Derived.OpenShut
import Derived.SliceStrings
import Derived.ChangeSlices
import Derived.JoinedCond
import Derived.Deep.SlicePairs
import Derived.Deep.DeepHandedRow
import Derived.Lib.LaidTab
import Derived.Stop.LaidErr
import Derived.Lib.ItoaNum
namespace Go.Proofs.YtfejieikpnljoaaGreatDoor
open Go.ChangeShapes Go.WideShapes Go.ChangeAt Go.RowKit Go.Eng
def tab32 : List Int := [0, 1, 28, 2, 29, 14, 24, 3, 30, 22, 20, 15, 25, 17, 4, 8, 31, 27, 13, 23, 21, 19, 16, 7, 26, 12, 18, 6, 11, 5, 10, 9]
def tab64 : List Int := [0, 1, 56, 2, 57, 49, 28, 3, 61, 58, 42, 50, 38, 29, 17, 4, 62, 47, 59, 36, 45, 43, 51, 22, 53, 39, 33, 30, 24, 18, 12, 5, 63, 55, 48, 27, 60, 41, 37, 16, 46, 35, 44, 21, 52, 32, 23, 11, 54, 26, 40, 15, 34, 20, 31, 10, 25, 14, 19, 9, 13, 8, 7, 6]
def putCells (k : IntKind) (vs : List Int) : Obj → Obj
  | .cells _ t frozen => .cells (vs.map fun z => Value.int k z).toArray t frozen
  | o => o
noncomputable def low : Nat := (World.holding Tryz.prog default ⟨#[], #[], []⟩).heap.size
noncomputable def putErr (n : Nat) : Obj → Obj
  | .cells _ t frozen => .cells #[.iface 471 (.pointer (some ⟨n, 0, none⟩))] t frozen
  | o => o
abbrev rangeS : ByteArray := { data := #[118, 97, 108, 117, 101, 32, 111, 117, 116, 32, 111, 102, 32, 114, 97, 110, 103, 101] }
abbrev syntaxS : ByteArray := { data := #[105, 110, 118, 97, 108, 105, 100, 32, 115, 121, 110, 116, 97, 120] }
/-- a world in which the tables and the errors are laid -/
noncomputable def laidWorld (os : Os) : World :=
  let w0 := World.holding Tryz.prog os ⟨#[.cells #[.string rangeS] 473, .cells #[.string syntaxS] 473], #[], []⟩
  { w0 with heap := ((((w0.heap.modify 1 (putCells .u64 Lib.pow10Tab)).modify 4 (putCells .u8 tab32)).modify 5 (putCells .u8 tab64)).modify 3 (putErr low)).modify 2 (putErr (low + 1)) }
theorem Tryz.laidOut : laidOutB Tryz.prog = true := by kernel_rfl
theorem own : ownKnob Tryz.prog.godebug = none := by kernel_rfl
set_option maxRecDepth 100000 in
theorem laid_metFrames (os : Os) : laidMet Tryz.prog Rows.saveFramesUptoRow.laid ((laidWorld os).forCall (fun _ _ => 0) ⟨#[], #[.int .u8 0, .slice none 0 0], []⟩).memory :=
  laidMet_of_run' 8 (by kernel_rfl) (by kernel_rfl)
set_option maxRecDepth 100000 in
theorem readsFrames (os : Os) {H : Type} (enc : TypeId × Value → H) : ∃ places, DataW.whole enc Tryz.prog ((laidWorld os).forCall (fun _ _ => 0) ⟨#[], #[.int .u8 0, .slice none 0 0], []⟩).memory Tryz.f3.params.toList Rows.saveFramesSpec.vars false (#[.int .u8 0, .slice none 0 0] : Array Value).toList 8 = some ([.lit (.int .u8 0), .nil], [], places) :=
  ⟨[], by kernel_rfl⟩
theorem bulk_one {H : Type} (d : DataW H) : 1 ≤ Rows.uptoBulk d := by
  cases d with
  | lit l => cases l <;> simp [Rows.uptoBulk]
  | _ => simp [Rows.uptoBulk]
theorem bulk_length {H : Type} (l : List (DataW H)) : l.length ≤ Rows.uptoBulkAll l := by
  induction l with
  | nil => simp [Rows.uptoBulkAll]
  | cons x r ih => have := bulk_one x; simp only [Rows.uptoBulkAll, List.length_cons]; omega
theorem cells_of {w : World} {b o : Nat} {cs : List Value} (h0 : 0 < cs.length) (h : ∀ j (hj : j < cs.length), w.cell? ⟨b, o + j, none⟩ = some cs[j]) : Cells w.heap b o cs := by
  have h1 := h 0 h0
  unfold World.cell? at h1
  dsimp only at h1
  cases hb : w.heap[b]? with
  | none => rw [hb] at h1; cases h1
  | some ob =>
    cases ob with
    | cells c e fr =>
      refine ⟨c, e, fr, hb, fun j hj => ?_⟩
      have h2 := h j hj
      simpa [World.cell?, hb] using h2
    | _ => rw [hb] at h1; cases h1
theorem flat_bytes (xs : List Nat) : flat eY.enc xs = xs.map fun x => Value.int .u8 ((x : Nat) : Int) := by
  induction xs with
  | nil => rfl
  | cons x xs ih => simp only [flat, List.flatMap_cons, List.map_cons] at *; rw [ih]; rfl
theorem add_plain' (b o i : Nat) : (⟨b, o, none⟩ : Addr).add i = ⟨b, o + i, none⟩ := by simp [Addr.add]
theorem gC5 : Tryz.prog.cellsOf 5 = 1 := by kernel_rfl
theorem byte_wf {n : Int} (h : (Lit.int .u8 n).wf = true) : 0 ≤ n ∧ n < 256 := by
  simp only [Lit.wf, Bool.and_eq_true, decide_eq_true_eq] at h
  have h1 : IntKind.u8.min = 0 := by decide
  have h2 : IntKind.u8.max = 255 := by decide
  omega
section
variable {H : Type} {enc : TypeId × Value → H} {W : World} {u : Value} {y : DataW H × List MemPlace} {fuel : Nat} {cs : List Value}
/-- a list of bytes -/
theorem open_bytes (hf : DataW.trod enc Tryz.prog W 0 (fun _ => true) true fuel 22 [u] = some y) :
    ∃ a c, ∃ xs : List Nat, u = .slice a xs.length c ∧ xs.length + 1 ≤ Rows.uptoBulk y.1 ∧ Srm eY W.heap a xs.length c xs ∧ ∀ i, i < xs.length → el xs i < 256 := by
  rcases open_ints Tryz.underlying22 Tryz.underlying5 gC5 hf with ⟨hcs, hx⟩ | ⟨a, len, cap, zs, hcs, _, hl, hm, hz, hx, hcell, hwf⟩
  · simp only [List.cons.injEq, and_true] at hcs
    subst hcs
    exact ⟨none, 0, [], rfl, by have := bulk_one y.1; simpa using this, Src.nil _ _, fun i hi => absurd hi (Nat.not_lt_zero _)⟩
  · simp only [List.cons.injEq, and_true] at hcs
    subst hcs
    subst hx
    simp only [if_true] at hz
    have hlx : ((zs.take len).map Int.toNat).length = len := by rw [List.length_map, List.length_take]; omega
    have hel : ∀ j (hj : j < len), ((zs.take len).map Int.toNat)[j]'(by omega) = zs[j].toNat := fun j hj => by simp
    refine ⟨some a, cap, (zs.take len).map Int.toNat, by rw [hlx], ?_, ?_, fun i hi => ?_⟩
    · have := bulk_length (lits (H := H) .u8 (zs.take len))
      simp only [Rows.uptoBulk, lits, List.length_map] at this ⊢
      omega
    · refine ⟨by rw [flat_bytes, List.length_map]; exact (Nat.mul_one _).symm, some a, cap, rfl, by rw [hlx]; exact hl, hm, ?_⟩
      by_cases h0 : len = 0
      · exact .inl (hlx.trans h0)
      · obtain ⟨b, off, spot⟩ := a
        have hspot : spot = none := by simpa [Addr.add] using World.cell?_spot (hcell 0 (by omega))
        subst hspot
        refine .inr ⟨b, off, rfl, cells_of (by rw [flat_bytes, List.length_map, hlx]; omega) fun j hj => ?_⟩
        rw [flat_bytes, List.length_map, hlx] at hj
        have hc := hcell j (by omega)
        rw [add_plain'] at hc
        have hw := byte_wf (hwf _ (List.getElem_mem (show j < zs.length by omega)))
        rw [hc, ← List.getElem?_eq_getElem, flat_bytes, List.getElem?_map, List.getElem?_eq_getElem (show j < ((zs.take len).map Int.toNat).length by omega), hel j hj, List.getD_eq_getElem?_getD, List.getElem?_eq_getElem (show j < zs.length by omega), Option.getD_some, Option.map_some, Int.toNat_of_nonneg hw.1]
    · rw [hlx] at hi
      rw [el_eq (by rw [hlx]; exact hi), hel i hi]
      have hw := byte_wf (hwf _ (List.getElem_mem (show i < zs.length by omega)))
      omega
end
set_option maxRecDepth 100000 in
theorem saveFrames_contract (H : Type) (enc : TypeId × Value → H) (W : World) (base : Nat) (args : Array Value) (ds gs : List (DataW H)) (before : List MemPlace)
    (hval : ∀ (j : Nat) t v, Tryz.f3.params[j]? = some t → args[j]? = some v → Value.okWide Tryz.prog W .any base t v)
    (hW : DataW.Whole enc Tryz.prog Tryz.f3.params.toList Rows.saveFramesSpec.vars false W args.toList ds gs before) (hk : Rows.uptoSmall H (ds ++ gs) = true) :
    Calls Tryz.prog 3 args W fun e W' => ∃ v, e = .returned v ∧ Rows.saveFramesSpec.post enc Tryz.prog Tryz.f3 false true false false W args v W' := by
  have hW' := hW
  obtain ⟨p, q, hA0, hV, rfl, _, _⟩ := hW
  have hA : DataW.TrodAll enc Tryz.prog W 0 (fun _ => true) true Tryz.f3.params.toList args.toList ds p := hA0
  rw [Tryz.params3] at hA hval
  obtain ⟨v0, v1, d0, d1, p0, p1, rfl, rfl, rfl, h0, h1⟩ := trodAll_two hA
  obtain ⟨rfl, rfl⟩ := trodVars_none hV
  clear hA0
  simp only [List.append_nil] at hW' hk
  have hb0 : Rows.uptoBulkAll [d0, d1] ≤ 1048576 := of_decide_eq_true hk
  simp only [Rows.uptoBulkAll] at hb0
  have hlt : ∀ x ∈ p0 ++ p1, x.block < W.heap.size := fun x hx => by simpa using hW'.lt x hx
  obtain ⟨n, rfl⟩ := okWide_int Tryz.underlying5 (hval 0 5 v0 rfl rfl)
  obtain ⟨a0, l0, c0, rfl⟩ := okWide_slice Tryz.underlying22 (hval 1 22 v1 rfl rfl)
  obtain ⟨fuel0, hf0⟩ := h0
  obtain ⟨fuel, hf⟩ := h1
  have hcl0 : (Value.int .u8 n).cells.toList = [.int .u8 n] := rfl
  rw [hcl0] at hf0
  obtain ⟨n', hn1, _, hn2⟩ := DataW.trod_int Tryz.underlying5 hf0
  simp only [List.cons.injEq, and_true, Value.int.injEq, true_and] at hn1
  subst hn1
  have hn := byte_wf hn2
  have hcl : (Value.slice a0 l0 c0).cells.toList = [.slice a0 l0 c0] := rfl
  rw [hcl] at hf
  obtain ⟨a, c, L, e1, h1, h2, h3⟩ := open_bytes hf
  dsimp only at h1
  rw [e1]
  rw [e1] at hW' hf
  obtain ⟨k, rfl⟩ := Int.eq_ofNat_of_zero_le hn.1
  refine (law3 k L a L.length c W h2 (by omega) h3 (by omega)).mono fun e W' ⟨he, hb⟩ => ?_
  subst he
  refine ⟨_, rfl, _, _, _, [], p0 ++ p1, [], hW', ?_, ?_, rfl, hb.frame _, fun h => by cases h⟩
  · exact trodAll_mk1 (shut_bool Tryz.underlying4 _)
  · exact trodAll_mk2 (Below.trod Tryz.laidOut (by kernel_rfl) (of_decide_eq_true (by kernel_rfl)) ⟨fuel0, hf0⟩ hb fun x hx => hlt x (by simp [hx])) (Below.trod Tryz.laidOut (by kernel_rfl) (of_decide_eq_true (by kernel_rfl)) ⟨fuel, hf⟩ hb fun x hx => hlt x (by simp [hx]))
set_option maxRecDepth 100000 in
theorem saveFrames_lifted (os : Os) (started : os.Started) (H : Type) (enc : TypeId × Value → H) (F : Stop.Interp) :
    ReturnsInHanded {} Tryz.checked os 3 .any ((Rows.OpenSpec.upto Rows.saveFramesSpec).preRow enc Tryz.prog Tryz.f3 Rows.saveFramesUptoRow.domain false Rows.saveFramesUptoRow.laid) (((Rows.OpenSpec.upto Rows.saveFramesSpec).at F).post enc Tryz.prog Tryz.f3 false true false false) := by
  obtain ⟨places, hx⟩ := readsFrames os enc
  refine returnsInHanded_of_row (C := Tryz.checked) (s := Rows.OpenSpec.upto Rows.saveFramesSpec) own started (by kernel_rfl) Tryz.func3
    (witness_row_at (enc := enc) (C := Tryz.checked) false (laidWorld os) #[.int .u8 0, .slice none 0 0] rfl (by kernel_rfl) (by kernel_rfl) (by kernel_rfl)
      (OpenSpec.preRow_of_cond 8 hx (by kernel_rfl) (fun k hk => by cases hk; kernel_rfl) (by kernel_rfl) (laid_metFrames os))) ?_
  intro W base args ds gs before hval hW _ hcond _ _ _ _
  exact saveFrames_contract H enc W base args ds gs before hval hW (hcond _ rfl)
end Go.Proofs.YtfejieikpnljoaaGreatDoor
