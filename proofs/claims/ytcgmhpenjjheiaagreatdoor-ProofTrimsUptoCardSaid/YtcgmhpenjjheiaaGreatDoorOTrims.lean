/-
  The program's function inklinglaw23.ProofTrims answers true at every list of steps that is of bulk at most 1048576, and it reads behind the call as ahead of it. The tables of the library are those that the program's text lays; no other condition but that of the given row.
-/
import Derived.Test.YtcgmhpenjjheiaaGreatDoorPO
namespace Go.Proofs.YtcgmhpenjjheiaaGreatDoor
open Go.ChangeShapes Go.WideShapes Go.ChangeAt Go.RowKit Go.Eng Go.PT
def tab32 : List Int := [0, 1, 28, 2, 29, 14, 24, 3, 30, 22, 20, 15, 25, 17, 4, 8, 31, 27, 13, 23, 21, 19, 16, 7, 26, 12, 18, 6, 11, 5, 10, 9]
def tab64 : List Int := [0, 1, 56, 2, 57, 49, 28, 3, 61, 58, 42, 50, 38, 29, 17, 4, 62, 47, 59, 36, 45, 43, 51, 22, 53, 39, 33, 30, 24, 18, 12, 5, 63, 55, 48, 27, 60, 41, 37, 16, 46, 35, 44, 21, 52, 32, 23, 11, 54, 26, 40, 15, 34, 20, 31, 10, 25, 14, 19, 9, 13, 8, 7, 6]
def putCells (k : IntKind) (vs : List Int) : Obj → Obj
  | .cells _ t frozen => .cells (vs.map fun z => Value.int k z).toArray t frozen
  | o => o
/-- a world in which the tables are laid -/
noncomputable def laidWorld (os : Os) : World :=
  { World.holding Tryz.prog os ⟨#[], #[], []⟩ with heap := (((World.holding Tryz.prog os ⟨#[], #[], []⟩).heap.modify 1 (putCells .u64 Lib.pow10Tab)).modify 2 (putCells .u8 tab32)).modify 3 (putCells .u8 tab64) }
theorem Tryz.laidOut : laidOutB Tryz.prog = true := by kernel_rfl
theorem own : ownKnob Tryz.prog.godebug = none := by kernel_rfl
theorem gC230 : Tryz.prog.cellsOf 230 = 1 := by kernel_rfl
/-- what the row's list gives -/
theorem tab_of {W : World} (h : laidMetH Tryz.prog Rows.proofTrimsUptoRow.laid W) : Tab W :=
  Lib.tabIs_of_head (zs := Lib.pow10Tab) (show Tryz.prog.globalNamed "internal/strconv.uint64pow10" = some 1 by kernel_rfl) (t := 414) (by kernel_rfl) Tryz.underlying414 Tryz.underlying230 gC230 (by kernel_rfl) h.tail.tail
set_option maxRecDepth 100000 in
theorem laid_metTrims (os : Os) : laidMet Tryz.prog Rows.proofTrimsUptoRow.laid ((laidWorld os).forCall (fun _ _ => 0) ⟨#[], #[.slice none 0 0], []⟩).memory :=
  laidMet_of_run' 8 (by kernel_rfl) (by kernel_rfl)
set_option maxRecDepth 100000 in
theorem readsTrims (os : Os) {H : Type} (enc : TypeId × Value → H) : ∃ places, DataW.whole enc Tryz.prog ((laidWorld os).forCall (fun _ _ => 0) ⟨#[], #[.slice none 0 0], []⟩).memory Tryz.f3.params.toList Rows.proofTrimsSpec.vars false (#[(.slice none 0 0 : Value)]).toList 8 = some ([.nil], [], places) :=
  ⟨[], by kernel_rfl⟩
set_option maxRecDepth 100000 in
theorem proofTrims_contract (H : Type) (enc : TypeId × Value → H) (W : World) (base : Nat) (args : Array Value) (ds gs : List (DataW H)) (before : List MemPlace)
    (hval : ∀ (j : Nat) t v, Tryz.f3.params[j]? = some t → args[j]? = some v → Value.okWide Tryz.prog W .any base t v)
    (hW : DataW.Whole enc Tryz.prog Tryz.f3.params.toList Rows.proofTrimsSpec.vars false W args.toList ds gs before) (hk : Rows.uptoSmall H (ds ++ gs) = true) (hL : laidMetH Tryz.prog Rows.proofTrimsUptoRow.laid W) :
    Calls Tryz.prog 3 args W fun e W' => ∃ v, e = .returned v ∧ Rows.proofTrimsSpec.post enc Tryz.prog Tryz.f3 false true false false W args v W' := by
  have hT : Tab W := tab_of hL
  have hW' := hW
  obtain ⟨p, q, hA0, hV, rfl, _, _⟩ := hW
  have hA : DataW.TrodAll enc Tryz.prog W 0 (fun _ => true) true Tryz.f3.params.toList args.toList ds p := hA0
  rw [Tryz.params3] at hA hval
  obtain ⟨v0, vs0, d0, ds0, p0, q0, hargs, rfl, rfl, h0, r0⟩ := trodAll_cons hA
  obtain ⟨rfl, rfl, rfl⟩ := trodAll_nil r0
  obtain rfl : args = #[v0] := by cases args; simp_all
  obtain ⟨rfl, rfl⟩ := trodVars_none hV
  clear hA0
  simp only [List.append_nil] at hW' hk
  have hb0 : Rows.uptoBulkAll [d0] ≤ 1048576 := of_decide_eq_true hk
  simp only [Rows.uptoBulkAll] at hb0
  have hlt : ∀ x ∈ p0, x.block < W.heap.size := fun x hx => by simpa using hW'.lt x (by simpa using hx)
  obtain ⟨a0, l0, c0, rfl⟩ := okWide_slice Tryz.underlying22 (hval 0 22 v0 rfl rfl)
  obtain ⟨fuel, hf⟩ := h0
  have hcl : (Value.slice a0 l0 c0).cells.toList = [.slice a0 l0 c0] := rfl
  rw [hcl] at hf
  obtain ⟨a, c, L, e1, h1, h2, h3⟩ := open_steps hf
  dsimp only at h1 h2
  rw [e1]
  rw [e1] at hW' hf
  refine (law3 (L.map Prod.fst) L a L.length c W h3 (fun i hi => by rw [el_fst]) (by rw [List.length_map]) (by omega) (fun i hi => by rw [el_fst]; have := h2 i hi; omega) hT).mono fun e W' ⟨he, hb⟩ => ?_
  subst he
  refine ⟨_, rfl, _, _, _, [], p0, [], hW', ?_, ?_, rfl, hb.frame _, fun h => by cases h⟩
  · exact trodAll_mk1 (shut_bool Tryz.underlying4 _)
  · exact trodAll_mk1 (Below.trod Tryz.laidOut (by kernel_rfl) (of_decide_eq_true (by kernel_rfl)) ⟨fuel, hf⟩ hb hlt)
set_option maxRecDepth 100000 in
theorem proofTrims_lifted (os : Os) (started : os.Started) (H : Type) (enc : TypeId × Value → H) (F : Stop.Interp) :
    ReturnsInHanded {} Tryz.checked os 3 .any ((Rows.OpenSpec.upto Rows.proofTrimsSpec).preRow enc Tryz.prog Tryz.f3 Rows.proofTrimsUptoRow.domain false Rows.proofTrimsUptoRow.laid) (((Rows.OpenSpec.upto Rows.proofTrimsSpec).at F).post enc Tryz.prog Tryz.f3 false true false false) := by
  obtain ⟨places, hx⟩ := readsTrims os enc
  refine returnsInHanded_of_row (C := Tryz.checked) (s := Rows.OpenSpec.upto Rows.proofTrimsSpec) own started (by kernel_rfl) Tryz.func3
    (witness_row_at (enc := enc) (C := Tryz.checked) false (laidWorld os) #[(.slice none 0 0 : Value)] rfl (by kernel_rfl) (by kernel_rfl) (by kernel_rfl)
      (OpenSpec.preRow_of_cond 8 hx (by kernel_rfl) (fun k hk => by cases hk; kernel_rfl) (by kernel_rfl) (laid_metTrims os))) ?_
  intro W base args ds gs before hval hW _ hcond _ hL _ _
  exact proofTrims_contract H enc W base args ds gs before hval hW (hcond _ rfl) hL
theorem facts1 : Tryz.prog.inPlace 3 = Rows.proofTrimsUptoRow.inPlace := by kernel_rfl
theorem facts2 : Tryz.prog.unfollowed 3 = Rows.proofTrimsUptoRow.unfollowed := by kernel_rfl
theorem facts3 : Tryz.prog.recurses 3 = Rows.proofTrimsUptoRow.recurses := by kernel_rfl
theorem facts4 : Tryz.prog.varsNamed 3 = Rows.proofTrimsUptoRow.named := by kernel_rfl
theorem facts : joinedFacts Tryz.prog 3 Tryz.f3 (Rows.OpenSpec.upto Rows.proofTrimsSpec).bare Rows.proofTrimsUptoRow = true := by
  unfold joinedFacts
  rw [facts1, facts2, facts3, facts4]
  kernel_rfl
theorem proofTrims_said : Rows.ProofTrimsUptoSaid :=
  OpenClaim.holds_of_cond 3 Tryz.f3 rfl rfl rfl rfl rfl rfl rfl ⟨rfl, rfl, rfl, rfl, rfl⟩ rfl rfl rfl rfl rfl (by kernel_rfl) Tryz.func3 facts
    (of_decide_eq_true (by kernel_rfl)) (by unfold Func.isWrapper; first | (rw [if_pos (by decide +kernel)]; kernel_rfl) | (rw [if_neg (by decide +kernel)]; exact ⟨rfl, rfl⟩))
    (fun os started H enc _ F => by rw [OpenClaim.pre_eq_preRow]; exact proofTrims_lifted os started H enc F)
theorem proofTrims_plain (f : FuncId) (fn : Func) (hf : Tryz.pinned.checked.prog.funcNamed "inkling/inklinglaw23.ProofTrims" = some f) (hfn : Tryz.pinned.checked.prog.funcs[f]? = some fn) :
    false = Tryz.pinned.checked.prog.looks [] ∧ ∀ (j : Nat) t, fn.params[j]? = some t → Tryz.pinned.checked.prog.wantsStandIn t = false := by
  obtain rfl : f = 3 := Option.some.inj ((show Tryz.prog.funcNamed "inkling/inklinglaw23.ProofTrims" = some 3 by kernel_rfl).symm.trans hf) |>.symm
  obtain rfl : fn = Tryz.f3 := (Option.some.inj (Tryz.func3.symm.trans hfn)).symm
  refine ⟨by kernel_rfl, fun j t ht => ?_⟩
  rw [Tryz.params3] at ht
  have hm := Array.mem_of_getElem? ht
  have hall : Tryz.prog.wantsStandIn 22 = false := by kernel_rfl
  simp at hm
  subst hm
  exact hall
theorem proofTrims_holds : Rows.ProofTrimsUptoCardSaid :=
  Claim7.holds_tied_plain_at .later [] _ _ _ _ proofTrims_said (fun _ h => by cases h) (by kernel_rfl) (fun _ h => by cases h) proofTrimsUpto_row_tie rfl ⟨rfl, rfl⟩ (by kernel_rfl) rfl proofTrims_plain (by kernel_rfl)
#print axioms proofTrims_holds
end Go.Proofs.YtcgmhpenjjheiaaGreatDoor
