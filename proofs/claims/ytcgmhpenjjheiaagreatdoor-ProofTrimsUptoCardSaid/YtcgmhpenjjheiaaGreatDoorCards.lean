/-
  DERIVED. GIVEN WITH THE SEED: THE CARDS: each row of YtcgmhpenjjheiaaGreatDoorRows.lean that lists a variable, with what it lists TIED to the program's text (the seventh form; the later family's looks); each row that meets fmt, with fmt's text TOLD by the authors' own Lean function (tested against real Go, not proved from fmt's source: count such statements apart). THE CARD IS WHAT COUNTS. Prove the row's statement (the work); the ties are given (YtcgmhpenjjheiaaGreatDoorTie.lean); close each card by the builder's one call (the guide's Derived/Test/ToyasCard.lean, 'card_holds'). Laid BY PROGRAM, IN A SANDBOX (cutbox-door.mjs). By AI agents, Wed Nov 11 2026. No macro, syntax, notation, axiom, sorry.
-/
import Derived.Test.YtcgmhpenjjheiaaGreatDoorRows
import GoSem.ClaimSeven
namespace Go.Proofs.YtcgmhpenjjheiaaGreatDoor
namespace Rows

/-- THE TIED CARD OF 'inklinglaw23.ProofTrims'. -/
def proofTrimsCard : Claim7 := { stood := { row := proofTrimsRow, standIns := [], harness := (true, "d6c8878627b81100d312258d01e8f0f28ac0436ad075cf3eacfb16800a468fc1"), looks := false }, kinds := [], alts := [], laidByText := true, laidKinds := [.data, .data, .data], laidTests := true, laidLooks := .later }
def ProofTrimsCardSaid : Prop := Claim7.holds Tryz.pinned (.plain (OpenSpec.ofChange proofTrimsSpec)) proofTrimsCard

/-- THE SECOND FORM's CARD OF 'inklinglaw23.ProofTrims'. -/
def proofTrimsUptoCard : Claim7 := { stood := { row := proofTrimsUptoRow, standIns := [], harness := (true, "d6c8878627b81100d312258d01e8f0f28ac0436ad075cf3eacfb16800a468fc1"), looks := false }, kinds := [], alts := [], laidByText := true, laidKinds := [.data, .data, .data], laidTests := true, laidLooks := .later }
def ProofTrimsUptoCardSaid : Prop := Claim7.holds Tryz.pinned (.plain (OpenSpec.upto proofTrimsSpec)) proofTrimsUptoCard
end Rows
end Go.Proofs.YtcgmhpenjjheiaaGreatDoor
