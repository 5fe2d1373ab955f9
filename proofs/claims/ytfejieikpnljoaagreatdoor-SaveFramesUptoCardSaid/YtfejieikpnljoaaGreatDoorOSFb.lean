/-
  The function SaveFrames: what the row says of its text.
-/
import Derived.Test.YtfejieikpnljoaaGreatDoorTie
import Derived.Test.YtfejieikpnljoaaGreatDoorCards
import Derived.Test.YtfejieikpnljoaaGreatDoorV2
import Derived.ProofKit
import Derived.WalkKit
import Derived.OpenShut
import Derived.SliceStrings
import Derived.ChangeSlices
import Derived.JoinedCond
import Derived.Deep.SlicePairs
import Derived.Deep.DeepHandedRow
import Derived.Lib.LaidTab
import Derived.Stop.LaidErr
import Derived.Lib.ItoaNum
namespace Go.Proofs.YtfejieikpnljoaaGreatDoor
open Go.ChangeShapes Go.WideShapes Go.ChangeAt Go.RowKit Go.Eng
theorem facts1 : Tryz.prog.inPlace 3 = Rows.saveFramesUptoRow.inPlace := by kernel_rfl
theorem facts2 : Tryz.prog.unfollowed 3 = Rows.saveFramesUptoRow.unfollowed := by kernel_rfl
theorem facts3 : Tryz.prog.recurses 3 = Rows.saveFramesUptoRow.recurses := by kernel_rfl
theorem facts4 : Tryz.prog.varsNamed 3 = Rows.saveFramesUptoRow.named := by kernel_rfl
theorem facts : joinedFacts Tryz.prog 3 Tryz.f3 (Rows.OpenSpec.upto Rows.saveFramesSpec).bare Rows.saveFramesUptoRow = true := by
  unfold joinedFacts
  rw [facts1, facts2, facts3, facts4]
  kernel_rfl
end Go.Proofs.YtfejieikpnljoaaGreatDoor
