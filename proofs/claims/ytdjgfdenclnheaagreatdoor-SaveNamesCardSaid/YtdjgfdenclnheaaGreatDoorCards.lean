/-
  DERIVED. GIVEN WITH THE SEED: THE CARDS: each row of YtdjgfdenclnheaaGreatDoorRows.lean that lists a variable, with what it lists TIED to the program's text (the seventh form; the later family's looks); each row that meets fmt, with fmt's text TOLD by the authors' own Lean function (tested against real Go, not proved from fmt's source: count such statements apart). THE CARD IS WHAT COUNTS. Prove the row's statement (the work); the ties are given (YtdjgfdenclnheaaGreatDoorTie.lean); close each card by the builder's one call (the guide's Derived/Test/ToyasCard.lean, 'card_holds'). Laid BY PROGRAM, IN A SANDBOX (cutbox-door.mjs). By AI agents, Wed Nov 11 2026. No macro, syntax, notation, axiom, sorry.
-/
import Derived.Test.YtdjgfdenclnheaaGreatDoorRows
import GoSem.ClaimSeven
namespace Go.Proofs.YtdjgfdenclnheaaGreatDoor
namespace Rows

/-- THE TIED CARD OF 'inklinglaw31.SaveNames'. -/
def saveNamesCard : Claim7 := { stood := { row := saveNamesRow, standIns := [], harness := (true, "2d1a50c06322cca0929b3493a5198692d9d471a93bacee0ede2c81602c63aff7"), looks := true }, kinds := [], alts := [], laidByText := true, laidKinds := [.data, .data, .data, .sentinel, .sentinel], laidTests := true, laidLooks := .later }
def SaveNamesCardSaid : Prop := Claim7.holds Tryz.pinned (.plain (OpenSpec.ofChange saveNamesSpec)) saveNamesCard

/-- THE SECOND FORM's CARD OF 'inklinglaw31.SaveNames'. -/
def saveNamesUptoCard : Claim7 := { stood := { row := saveNamesUptoRow, standIns := [], harness := (true, "2d1a50c06322cca0929b3493a5198692d9d471a93bacee0ede2c81602c63aff7"), looks := true }, kinds := [], alts := [], laidByText := true, laidKinds := [.data, .data, .data, .sentinel, .sentinel], laidTests := true, laidLooks := .later }
def SaveNamesUptoCardSaid : Prop := Claim7.holds Tryz.pinned (.plain (OpenSpec.upto saveNamesSpec)) saveNamesUptoCard
end Rows
end Go.Proofs.YtdjgfdenclnheaaGreatDoor
