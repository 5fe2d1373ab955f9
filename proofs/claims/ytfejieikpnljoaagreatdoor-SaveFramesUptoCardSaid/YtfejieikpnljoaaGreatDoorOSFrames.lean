/-
  The program's function inklinglaw31.SaveFrames answers true at every kind and every body that are of bulk at most 1048576, and the body reads behind the call as ahead of it. The tables and the errors of the library are those that the program's text lays; no other condition but that of the given row.
-/
import Derived.Test.YtfejieikpnljoaaGreatDoorTie
import Derived.Test.YtfejieikpnljoaaGreatDoorCards
import Derived.Test.YtfejieikpnljoaaGreatDoorOSFa
import Derived.Test.YtfejieikpnljoaaGreatDoorOSFb
import Derived.ProofKit
import Derived.WalkKit
import Derived.OpenShut
import Derived.SliceStrings
import Derived.ChangeSlices
import Derived.JoinedCond
import Derived.Deep.SlicePairs
import Derived.Deep.DeepHandedRow
import Derived.Lib.LaidTab
import Derived.Stop.LaidErr
import Derived.Lib.ItoaNum
namespace Go.Proofs.YtfejieikpnljoaaGreatDoor
open Go.ChangeShapes Go.WideShapes Go.ChangeAt Go.RowKit Go.Eng
theorem saveFrames_said : Rows.SaveFramesUptoSaid :=
  OpenClaim.holds_of_cond 3 Tryz.f3 rfl rfl rfl rfl rfl rfl rfl ⟨rfl, rfl, rfl, rfl, rfl⟩ rfl rfl rfl rfl rfl (by kernel_rfl) Tryz.func3 facts
    (of_decide_eq_true (by kernel_rfl)) (by unfold Func.isWrapper; first | (rw [if_pos (by decide +kernel)]; kernel_rfl) | (rw [if_neg (by decide +kernel)]; exact ⟨rfl, rfl⟩))
    (fun os started H enc _ F => by rw [OpenClaim.pre_eq_preRow]; exact saveFrames_lifted os started H enc F)
theorem saveFrames_plain (f : FuncId) (fn : Func) (hf : Tryz.pinned.checked.prog.funcNamed "inkling/inklinglaw31.SaveFrames" = some f) (hfn : Tryz.pinned.checked.prog.funcs[f]? = some fn) :
    true = Tryz.pinned.checked.prog.looks [] ∧ ∀ (j : Nat) t, fn.params[j]? = some t → Tryz.pinned.checked.prog.wantsStandIn t = false := by
  obtain rfl : f = 3 := Option.some.inj ((show Tryz.prog.funcNamed "inkling/inklinglaw31.SaveFrames" = some 3 by kernel_rfl).symm.trans hf) |>.symm
  obtain rfl : fn = Tryz.f3 := (Option.some.inj (Tryz.func3.symm.trans hfn)).symm
  refine ⟨by kernel_rfl, fun j t ht => ?_⟩
  rw [Tryz.params3] at ht
  have hm := Array.mem_of_getElem? ht
  have h5 : Tryz.prog.wantsStandIn 5 = false := by kernel_rfl
  have h22 : Tryz.prog.wantsStandIn 22 = false := by kernel_rfl
  simp at hm
  rcases hm with rfl | rfl
  · exact h5
  · exact h22
theorem saveFrames_holds : Rows.SaveFramesUptoCardSaid :=
  Claim7.holds_tied_plain_at .later [] _ _ _ _ saveFrames_said (fun _ h => by cases h) (by kernel_rfl) (fun _ h => by cases h) saveFramesUpto_row_tie rfl ⟨rfl, rfl⟩ (by kernel_rfl) rfl saveFrames_plain (by kernel_rfl)
#print axioms saveFrames_holds
end Go.Proofs.YtfejieikpnljoaaGreatDoor
