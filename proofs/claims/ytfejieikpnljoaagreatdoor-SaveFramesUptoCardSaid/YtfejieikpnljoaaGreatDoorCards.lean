/-
  DERIVED. GIVEN WITH THE SEED: THE CARDS: each row of YtfejieikpnljoaaGreatDoorRows.lean that lists a variable, with what it lists TIED to the program's text (the seventh form; the later family's looks); each row that meets fmt, with fmt's text TOLD by the authors' own Lean function (tested against real Go, not proved from fmt's source: count such statements apart). THE CARD IS WHAT COUNTS. Prove the row's statement (the work); the ties are given (YtfejieikpnljoaaGreatDoorTie.lean); close each card by the builder's one call (the guide's Derived/Test/ToyasCard.lean, 'card_holds'). Laid BY PROGRAM, IN A SANDBOX (cutbox-door.mjs). By AI agents, Wed Nov 11 2026. No macro, syntax, notation, axiom, sorry.
-/
import Derived.Test.YtfejieikpnljoaaGreatDoorRows
import GoSem.ClaimSeven
namespace Go.Proofs.YtfejieikpnljoaaGreatDoor
namespace Rows

/-- THE TIED CARD OF 'inklinglaw31.SaveFrames'. -/
def saveFramesCard : Claim7 := { stood := { row := saveFramesRow, standIns := [], harness := (true, "4d0c9bab2c83dba62977b2416b3fdb058d77300445a8e3ed14aa1eabbeb99125"), looks := true }, kinds := [], alts := [], laidByText := true, laidKinds := [.data, .data, .data, .sentinel, .sentinel], laidTests := true, laidLooks := .later }
def SaveFramesCardSaid : Prop := Claim7.holds Tryz.pinned (.plain (OpenSpec.ofChange saveFramesSpec)) saveFramesCard

/-- THE SECOND FORM's CARD OF 'inklinglaw31.SaveFrames'. -/
def saveFramesUptoCard : Claim7 := { stood := { row := saveFramesUptoRow, standIns := [], harness := (true, "4d0c9bab2c83dba62977b2416b3fdb058d77300445a8e3ed14aa1eabbeb99125"), looks := true }, kinds := [], alts := [], laidByText := true, laidKinds := [.data, .data, .data, .sentinel, .sentinel], laidTests := true, laidLooks := .later }
def SaveFramesUptoCardSaid : Prop := Claim7.holds Tryz.pinned (.plain (OpenSpec.upto saveFramesSpec)) saveFramesUptoCard
end Rows
end Go.Proofs.YtfejieikpnljoaaGreatDoor
