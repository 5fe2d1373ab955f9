/-
  No cell of these rows narrows 'for every input' (looked for: loops, veiled, ifaces, maps, wideKeys, modest, calm, conditions, laid).
  DERIVED. THE GIVEN ROWS OF THIS SEAT. 6 by the template 'for every input the law returns true; each argument reads behind the call as it read before'; 0 by the template 'total and deterministic' (their statements: YtknfjgbipfpnjaaTotals.lean).
  GIVEN WITH THE SEED: the statements are not yours to turn. If you find one false, say at which input.
  Laid BY PROGRAM, IN A SANDBOX (cutbox-rows.mjs): the forced cells as the released guide's own fill.sh prints them over the translation 106950a2c6ec0362… (all of the seat's roots in one cut). By AI agents, Wed Nov 11 2026. No macro, syntax, notation, axiom, sorry.
-/
import Derived.Test.YtknfjgbipfpnjaaChecked
import GoSem.Claim
import GoSem.ClaimJoined
import GoSem.ClaimMapViews
import Derived.JoinedTies
import Derived.KernelRfl
namespace Go.Proofs.Ytknfjgbipfpnjaa
/- THE CELL 'sum', in the pinned program and in every row, IS THE sha256 OF THE DUMP (.gsa) THAT YtknfjgbipfpnjaaProg.lean LOADS. Nothing in Lean hashes anything: it is a label: what it is worth is what the hold of that sum in a sandbox is worth. -/
noncomputable def Try.pinned : Pinned := { name := "ytknfjgbipfpnjaa", sum := "106950a2c6ec0362578256e3cb9ac1002550383d77bdb509a0d1e1c727d7cf61", checked := Try.checked }
namespace Rows
def none {H : Type} : Left H := { results := [], args := [] }

/-- 'inklinglaw13.GraphParts': WHATEVER THE INPUT: true; the input reads as it did. -/
def graphPartsSpec : ChangeSpec := { name := "graphParts", fn := fun _ => fun
  | [d1, d2] => { results := [.lit (.bool true)], args := [d1, d2] }
  | _ => none }
def graphPartsRow : OpenClaim := { program := "ytknfjgbipfpnjaa", sum := "106950a2c6ec0362578256e3cb9ac1002550383d77bdb509a0d1e1c727d7cf61", func := "inkling/inklinglaw13.GraphParts", spec := "graphParts", unfollowed := true, recurses := true, apart := false }
def GraphPartsSaid : Prop := graphPartsRow.holds Try.pinned (OpenSpec.ofChange graphPartsSpec)

/-- ITS FALSE NEIGHBOUR: 'it returns false'. Refute it at one input. -/
def graphPartsWrong : ChangeSpec := { name := "graphParts", fn := fun _ => fun
  | [d1, d2] => { results := [.lit (.bool false)], args := [d1, d2] }
  | _ => none }
def GraphPartsWrongFalsely : Prop := graphPartsRow.holds Try.pinned (OpenSpec.ofChange graphPartsWrong)

/-- 'inklinglaw13.GraphLevels': WHATEVER THE INPUT: true; the input reads as it did. -/
def graphLevelsSpec : ChangeSpec := { name := "graphLevels", fn := fun _ => fun
  | [d1, d2] => { results := [.lit (.bool true)], args := [d1, d2] }
  | _ => none }
def graphLevelsRow : OpenClaim := { program := "ytknfjgbipfpnjaa", sum := "106950a2c6ec0362578256e3cb9ac1002550383d77bdb509a0d1e1c727d7cf61", func := "inkling/inklinglaw13.GraphLevels", spec := "graphLevels", unfollowed := true, recurses := true, apart := false }
def GraphLevelsSaid : Prop := graphLevelsRow.holds Try.pinned (OpenSpec.ofChange graphLevelsSpec)

/-- ITS FALSE NEIGHBOUR: 'it returns false'. Refute it at one input. -/
def graphLevelsWrong : ChangeSpec := { name := "graphLevels", fn := fun _ => fun
  | [d1, d2] => { results := [.lit (.bool false)], args := [d1, d2] }
  | _ => none }
def GraphLevelsWrongFalsely : Prop := graphLevelsRow.holds Try.pinned (OpenSpec.ofChange graphLevelsWrong)

/-- 'inklinglaw13.GraphBars': WHATEVER THE INPUT: true; the input reads as it did. -/
def graphBarsSpec : ChangeSpec := { name := "graphBars", fn := fun _ => fun
  | [d1, d2] => { results := [.lit (.bool true)], args := [d1, d2] }
  | _ => none }
def graphBarsRow : OpenClaim := { program := "ytknfjgbipfpnjaa", sum := "106950a2c6ec0362578256e3cb9ac1002550383d77bdb509a0d1e1c727d7cf61", func := "inkling/inklinglaw13.GraphBars", spec := "graphBars", unfollowed := true, recurses := true, apart := false }
def GraphBarsSaid : Prop := graphBarsRow.holds Try.pinned (OpenSpec.ofChange graphBarsSpec)

/-- ITS FALSE NEIGHBOUR: 'it returns false'. Refute it at one input. -/
def graphBarsWrong : ChangeSpec := { name := "graphBars", fn := fun _ => fun
  | [d1, d2] => { results := [.lit (.bool false)], args := [d1, d2] }
  | _ => none }
def GraphBarsWrongFalsely : Prop := graphBarsRow.holds Try.pinned (OpenSpec.ofChange graphBarsWrong)

/-- 'inklinglaw13.GraphReasons': WHATEVER THE INPUT: true; the input reads as it did. -/
def graphReasonsSpec : ChangeSpec := { name := "graphReasons", fn := fun _ => fun
  | [d1, d2] => { results := [.lit (.bool true)], args := [d1, d2] }
  | _ => none }
def graphReasonsRow : OpenClaim := { program := "ytknfjgbipfpnjaa", sum := "106950a2c6ec0362578256e3cb9ac1002550383d77bdb509a0d1e1c727d7cf61", func := "inkling/inklinglaw13.GraphReasons", spec := "graphReasons", unfollowed := true, recurses := true, apart := false }
def GraphReasonsSaid : Prop := graphReasonsRow.holds Try.pinned (OpenSpec.ofChange graphReasonsSpec)

/-- ITS FALSE NEIGHBOUR: 'it returns false'. Refute it at one input. -/
def graphReasonsWrong : ChangeSpec := { name := "graphReasons", fn := fun _ => fun
  | [d1, d2] => { results := [.lit (.bool false)], args := [d1, d2] }
  | _ => none }
def GraphReasonsWrongFalsely : Prop := graphReasonsRow.holds Try.pinned (OpenSpec.ofChange graphReasonsWrong)

/-- 'inklinglaw13.GraphTurns': WHATEVER THE INPUT: true; the input reads as it did. -/
def graphTurnsSpec : ChangeSpec := { name := "graphTurns", fn := fun _ => fun
  | [d1, d2, d3, d4] => { results := [.lit (.bool true)], args := [d1, d2, d3, d4] }
  | _ => none }
def graphTurnsRow : OpenClaim := { program := "ytknfjgbipfpnjaa", sum := "106950a2c6ec0362578256e3cb9ac1002550383d77bdb509a0d1e1c727d7cf61", func := "inkling/inklinglaw13.GraphTurns", spec := "graphTurns", unfollowed := true, recurses := true, apart := false }
def GraphTurnsSaid : Prop := graphTurnsRow.holds Try.pinned (OpenSpec.ofChange graphTurnsSpec)

/-- ITS FALSE NEIGHBOUR: 'it returns false'. Refute it at one input. -/
def graphTurnsWrong : ChangeSpec := { name := "graphTurns", fn := fun _ => fun
  | [d1, d2, d3, d4] => { results := [.lit (.bool false)], args := [d1, d2, d3, d4] }
  | _ => none }
def GraphTurnsWrongFalsely : Prop := graphTurnsRow.holds Try.pinned (OpenSpec.ofChange graphTurnsWrong)

/-- 'inklinglaw13.GraphNodes': WHATEVER THE INPUT: true; the input reads as it did. -/
def graphNodesSpec : ChangeSpec := { name := "graphNodes", fn := fun _ => fun
  | [d1, d2] => { results := [.lit (.bool true)], args := [d1, d2] }
  | _ => none }
def graphNodesRow : OpenClaim := { program := "ytknfjgbipfpnjaa", sum := "106950a2c6ec0362578256e3cb9ac1002550383d77bdb509a0d1e1c727d7cf61", func := "inkling/inklinglaw13.GraphNodes", spec := "graphNodes", unfollowed := true, recurses := true, apart := false }
def GraphNodesSaid : Prop := graphNodesRow.holds Try.pinned (OpenSpec.ofChange graphNodesSpec)

/-- ITS FALSE NEIGHBOUR: 'it returns false'. Refute it at one input. -/
def graphNodesWrong : ChangeSpec := { name := "graphNodes", fn := fun _ => fun
  | [d1, d2] => { results := [.lit (.bool false)], args := [d1, d2] }
  | _ => none }
def GraphNodesWrongFalsely : Prop := graphNodesRow.holds Try.pinned (OpenSpec.ofChange graphNodesWrong)

/- THE SECOND FORM. 'bulk': how many values and letters a reading holds, each counted each time it is reached (what is shared counts as often as it is met; a slice's spare places count too). A statement '..UptoSaid' is the law's where the arguments, and the package variables that the reading takes, are together of bulk at most 1048576: NARROWER than '..Said'. Prove '..Said' where nothing that the law and all that it calls make is longer than what came in: it says more and counts as full. Else prove '..UptoSaid'. A law counts once. -/
mutual
def uptoBulk {H : Type} : DataW H → Nat
  | .lit (.string bytes) => bytes.length + 1
  | .lit _ => 1
  | .nil => 1
  | .ptr d => uptoBulk d + 1
  | .slice elems spare => uptoBulkAll elems + uptoBulkAll spare + 1
  | .agg parts => uptoBulkAll parts + 1
  | .iface _ d => uptoBulk d + 1
  | .map entries => uptoBulkEntries entries + 1
  | .held _ => 1
def uptoBulkAll {H : Type} : List (DataW H) → Nat
  | [] => 0
  | d :: r => uptoBulk d + uptoBulkAll r
def uptoBulkEntries {H : Type} : List (Lit × DataW H) → Nat
  | [] => 0
  | x :: r => uptoBulkEntry x + uptoBulkEntries r
def uptoBulkEntry {H : Type} : Lit × DataW H → Nat
  | (.string bytes, d) => bytes.length + uptoBulk d + 1
  | (_, d) => uptoBulk d + 1
 end
def uptoSmall : (H : Type) → List (DataW H) → Bool := fun _ ds => decide (uptoBulkAll ds ≤ 1048576)
def OpenSpec.upto (s : _root_.Go.ChangeSpec) : _root_.Go.OpenSpec := { _root_.Go.OpenSpec.ofChange s with cond := some uptoSmall }

/-- 'inklinglaw13.GraphParts', WHERE WHAT IT READS IS OF BULK AT MOST 1048576: true; the input reads as it did. -/
def graphPartsUptoRow : OpenClaim := { program := "ytknfjgbipfpnjaa", sum := "106950a2c6ec0362578256e3cb9ac1002550383d77bdb509a0d1e1c727d7cf61", func := "inkling/inklinglaw13.GraphParts", spec := "graphParts", unfollowed := true, recurses := true, apart := false, narrowed := true }
def GraphPartsUptoSaid : Prop := graphPartsUptoRow.holds Try.pinned (OpenSpec.upto graphPartsSpec)

/-- 'inklinglaw13.GraphLevels', WHERE WHAT IT READS IS OF BULK AT MOST 1048576: true; the input reads as it did. -/
def graphLevelsUptoRow : OpenClaim := { program := "ytknfjgbipfpnjaa", sum := "106950a2c6ec0362578256e3cb9ac1002550383d77bdb509a0d1e1c727d7cf61", func := "inkling/inklinglaw13.GraphLevels", spec := "graphLevels", unfollowed := true, recurses := true, apart := false, narrowed := true }
def GraphLevelsUptoSaid : Prop := graphLevelsUptoRow.holds Try.pinned (OpenSpec.upto graphLevelsSpec)

/-- 'inklinglaw13.GraphBars', WHERE WHAT IT READS IS OF BULK AT MOST 1048576: true; the input reads as it did. -/
def graphBarsUptoRow : OpenClaim := { program := "ytknfjgbipfpnjaa", sum := "106950a2c6ec0362578256e3cb9ac1002550383d77bdb509a0d1e1c727d7cf61", func := "inkling/inklinglaw13.GraphBars", spec := "graphBars", unfollowed := true, recurses := true, apart := false, narrowed := true }
def GraphBarsUptoSaid : Prop := graphBarsUptoRow.holds Try.pinned (OpenSpec.upto graphBarsSpec)

/-- 'inklinglaw13.GraphReasons', WHERE WHAT IT READS IS OF BULK AT MOST 1048576: true; the input reads as it did. -/
def graphReasonsUptoRow : OpenClaim := { program := "ytknfjgbipfpnjaa", sum := "106950a2c6ec0362578256e3cb9ac1002550383d77bdb509a0d1e1c727d7cf61", func := "inkling/inklinglaw13.GraphReasons", spec := "graphReasons", unfollowed := true, recurses := true, apart := false, narrowed := true }
def GraphReasonsUptoSaid : Prop := graphReasonsUptoRow.holds Try.pinned (OpenSpec.upto graphReasonsSpec)

/-- 'inklinglaw13.GraphTurns', WHERE WHAT IT READS IS OF BULK AT MOST 1048576: true; the input reads as it did. -/
def graphTurnsUptoRow : OpenClaim := { program := "ytknfjgbipfpnjaa", sum := "106950a2c6ec0362578256e3cb9ac1002550383d77bdb509a0d1e1c727d7cf61", func := "inkling/inklinglaw13.GraphTurns", spec := "graphTurns", unfollowed := true, recurses := true, apart := false, narrowed := true }
def GraphTurnsUptoSaid : Prop := graphTurnsUptoRow.holds Try.pinned (OpenSpec.upto graphTurnsSpec)

/-- 'inklinglaw13.GraphNodes', WHERE WHAT IT READS IS OF BULK AT MOST 1048576: true; the input reads as it did. -/
def graphNodesUptoRow : OpenClaim := { program := "ytknfjgbipfpnjaa", sum := "106950a2c6ec0362578256e3cb9ac1002550383d77bdb509a0d1e1c727d7cf61", func := "inkling/inklinglaw13.GraphNodes", spec := "graphNodes", unfollowed := true, recurses := true, apart := false, narrowed := true }
def GraphNodesUptoSaid : Prop := graphNodesUptoRow.holds Try.pinned (OpenSpec.upto graphNodesSpec)

end Rows
end Go.Proofs.Ytknfjgbipfpnjaa
