/-
  DERIVED. GIVEN WITH THE SEED: THE CARDS: each row of YtegpcbckiehleaaDoorRows.lean that lists a variable, with what it lists TIED to the program's text (the seventh form; the later family's looks); each row that meets fmt, with fmt's text TOLD by the authors' own Lean function (tested against real Go, not proved from fmt's source: count such statements apart). THE CARD IS WHAT COUNTS. Prove the row's statement (the work); the ties are given (YtegpcbckiehleaaDoorTie.lean); close each card by the builder's one call (the guide's Derived/Test/ToyasCard.lean, 'card_holds'). Laid BY PROGRAM, IN A SANDBOX (cutbox-door.mjs). By AI agents, Wed Nov 11 2026. No macro, syntax, notation, axiom, sorry.
-/
import Derived.Test.YtegpcbckiehleaaDoorRows
import GoSem.ClaimSeven
namespace Go.Proofs.YtegpcbckiehleaaDoor
namespace Rows

/-- THE TIED CARD OF 'inklinglaw25.SumsNumbers'. -/
def sumsNumbersCard : Claim7 := { stood := { row := sumsNumbersRow, standIns := [], harness := (true, "24669dfa141fbe7cf2dc0dc9ef62423bc398fa63fca8b137c4666d51ab5bef95"), looks := false }, kinds := [], alts := [], laidByText := true, laidKinds := [.data, .data, .data], laidTests := true, laidLooks := .later }
def SumsNumbersCardSaid : Prop := Claim7.holds Tryd.pinned (.plain (OpenSpec.ofChange sumsNumbersSpec)) sumsNumbersCard

/-- THE TIED CARD OF 'inklinglaw25.SumsGroups'. -/
def sumsGroupsCard : Claim7 := { stood := { row := sumsGroupsRow, standIns := [], harness := (true, "24669dfa141fbe7cf2dc0dc9ef62423bc398fa63fca8b137c4666d51ab5bef95"), looks := false }, kinds := [], alts := [], laidByText := true, laidKinds := [.data, .data, .data], laidTests := true, laidLooks := .later }
def SumsGroupsCardSaid : Prop := Claim7.holds Tryd.pinned (.plain (OpenSpec.ofChange sumsGroupsSpec)) sumsGroupsCard

/-- THE TIED CARD OF 'inklinglaw25.SumsRanks'. -/
def sumsRanksCard : Claim7 := { stood := { row := sumsRanksRow, standIns := [], harness := (true, "24669dfa141fbe7cf2dc0dc9ef62423bc398fa63fca8b137c4666d51ab5bef95"), looks := false }, kinds := [], alts := [], laidByText := true, laidKinds := [.data, .data, .data], laidTests := true, laidLooks := .later }
def SumsRanksCardSaid : Prop := Claim7.holds Tryd.pinned (.plain (OpenSpec.ofChange sumsRanksSpec)) sumsRanksCard

/-- THE TIED CARD OF 'inklinglaw25.SumsCounts'. -/
def sumsCountsCard : Claim7 := { stood := { row := sumsCountsRow, standIns := [], harness := (true, "24669dfa141fbe7cf2dc0dc9ef62423bc398fa63fca8b137c4666d51ab5bef95"), looks := false }, kinds := [], alts := [], laidByText := true, laidKinds := [.data, .data, .data], laidTests := true, laidLooks := .later }
def SumsCountsCardSaid : Prop := Claim7.holds Tryd.pinned (.plain (OpenSpec.ofChange sumsCountsSpec)) sumsCountsCard

/-- THE TIED CARD OF 'inklinglaw25.SumsWhole'. -/
def sumsWholeCard : Claim7 := { stood := { row := sumsWholeRow, standIns := [], harness := (true, "24669dfa141fbe7cf2dc0dc9ef62423bc398fa63fca8b137c4666d51ab5bef95"), looks := false }, kinds := [], alts := [], laidByText := true, laidKinds := [.data, .data, .data], laidTests := true, laidLooks := .later }
def SumsWholeCardSaid : Prop := Claim7.holds Tryd.pinned (.plain (OpenSpec.ofChange sumsWholeSpec)) sumsWholeCard

/-- THE TIED CARD OF 'inklinglaw25.SumsLines'. -/
def sumsLinesCard : Claim7 := { stood := { row := sumsLinesRow, standIns := [], harness := (true, "24669dfa141fbe7cf2dc0dc9ef62423bc398fa63fca8b137c4666d51ab5bef95"), looks := false }, kinds := [], alts := [], laidByText := true, laidKinds := [.data, .data, .data], laidTests := true, laidLooks := .later }
def SumsLinesCardSaid : Prop := Claim7.holds Tryd.pinned (.plain (OpenSpec.ofChange sumsLinesSpec)) sumsLinesCard

/-- THE SECOND FORM's CARD OF 'inklinglaw25.SumsNumbers'. -/
def sumsNumbersUptoCard : Claim7 := { stood := { row := sumsNumbersUptoRow, standIns := [], harness := (true, "24669dfa141fbe7cf2dc0dc9ef62423bc398fa63fca8b137c4666d51ab5bef95"), looks := false }, kinds := [], alts := [], laidByText := true, laidKinds := [.data, .data, .data], laidTests := true, laidLooks := .later }
def SumsNumbersUptoCardSaid : Prop := Claim7.holds Tryd.pinned (.plain (OpenSpec.upto sumsNumbersSpec)) sumsNumbersUptoCard

/-- THE SECOND FORM's CARD OF 'inklinglaw25.SumsGroups'. -/
def sumsGroupsUptoCard : Claim7 := { stood := { row := sumsGroupsUptoRow, standIns := [], harness := (true, "24669dfa141fbe7cf2dc0dc9ef62423bc398fa63fca8b137c4666d51ab5bef95"), looks := false }, kinds := [], alts := [], laidByText := true, laidKinds := [.data, .data, .data], laidTests := true, laidLooks := .later }
def SumsGroupsUptoCardSaid : Prop := Claim7.holds Tryd.pinned (.plain (OpenSpec.upto sumsGroupsSpec)) sumsGroupsUptoCard

/-- THE SECOND FORM's CARD OF 'inklinglaw25.SumsRanks'. -/
def sumsRanksUptoCard : Claim7 := { stood := { row := sumsRanksUptoRow, standIns := [], harness := (true, "24669dfa141fbe7cf2dc0dc9ef62423bc398fa63fca8b137c4666d51ab5bef95"), looks := false }, kinds := [], alts := [], laidByText := true, laidKinds := [.data, .data, .data], laidTests := true, laidLooks := .later }
def SumsRanksUptoCardSaid : Prop := Claim7.holds Tryd.pinned (.plain (OpenSpec.upto sumsRanksSpec)) sumsRanksUptoCard

/-- THE SECOND FORM's CARD OF 'inklinglaw25.SumsCounts'. -/
def sumsCountsUptoCard : Claim7 := { stood := { row := sumsCountsUptoRow, standIns := [], harness := (true, "24669dfa141fbe7cf2dc0dc9ef62423bc398fa63fca8b137c4666d51ab5bef95"), looks := false }, kinds := [], alts := [], laidByText := true, laidKinds := [.data, .data, .data], laidTests := true, laidLooks := .later }
def SumsCountsUptoCardSaid : Prop := Claim7.holds Tryd.pinned (.plain (OpenSpec.upto sumsCountsSpec)) sumsCountsUptoCard

/-- THE SECOND FORM's CARD OF 'inklinglaw25.SumsWhole'. -/
def sumsWholeUptoCard : Claim7 := { stood := { row := sumsWholeUptoRow, standIns := [], harness := (true, "24669dfa141fbe7cf2dc0dc9ef62423bc398fa63fca8b137c4666d51ab5bef95"), looks := false }, kinds := [], alts := [], laidByText := true, laidKinds := [.data, .data, .data], laidTests := true, laidLooks := .later }
def SumsWholeUptoCardSaid : Prop := Claim7.holds Tryd.pinned (.plain (OpenSpec.upto sumsWholeSpec)) sumsWholeUptoCard

/-- THE SECOND FORM's CARD OF 'inklinglaw25.SumsLines'. -/
def sumsLinesUptoCard : Claim7 := { stood := { row := sumsLinesUptoRow, standIns := [], harness := (true, "24669dfa141fbe7cf2dc0dc9ef62423bc398fa63fca8b137c4666d51ab5bef95"), looks := false }, kinds := [], alts := [], laidByText := true, laidKinds := [.data, .data, .data], laidTests := true, laidLooks := .later }
def SumsLinesUptoCardSaid : Prop := Claim7.holds Tryd.pinned (.plain (OpenSpec.upto sumsLinesSpec)) sumsLinesUptoCard
end Rows
end Go.Proofs.YtegpcbckiehleaaDoor
