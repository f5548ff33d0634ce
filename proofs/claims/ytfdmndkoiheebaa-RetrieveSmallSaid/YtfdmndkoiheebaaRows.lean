/-
  No cell of these rows narrows 'for every input' (looked for: loops, veiled, ifaces, maps, wideKeys, modest, calm, conditions, laid).
  DERIVED. THE GIVEN ROWS OF THIS SEAT. 14 by the template 'for every input the law returns true; each argument reads behind the call as it read before'; 0 by the template 'total and deterministic' (their statements: YtfdmndkoiheebaaTotals.lean).
  GIVEN WITH THE SEED: the statements are not yours to turn. If you find one false, say at which input.
  Laid BY PROGRAM, IN A SANDBOX (cutbox-rows.mjs): the forced cells as the released guide's own fill.sh prints them over the translation 6760d3ddbf7ad5bf… (all of the seat's roots in one cut). By AI agents, Wed Nov 11 2026. No macro, syntax, notation, axiom, sorry.
-/
import Derived.Test.YtfdmndkoiheebaaChecked
import GoSem.Claim
import GoSem.ClaimJoined
import GoSem.ClaimMapViews
import Derived.JoinedTies
import Derived.KernelRfl
namespace Go.Proofs.Ytfdmndkoiheebaa
/- THE CELL 'sum', in the pinned program and in every row, IS THE sha256 OF THE DUMP (.gsa) THAT YtfdmndkoiheebaaProg.lean LOADS. Nothing in Lean hashes anything: it is a label: what it is worth is what the hold of that sum in a sandbox is worth. -/
noncomputable def Try.pinned : Pinned := { name := "ytfdmndkoiheebaa", sum := "6760d3ddbf7ad5bf822d962c780df40861d0415d021203efb1795e64f2794da4", checked := Try.checked }
namespace Rows
def none {H : Type} : Left H := { results := [], args := [] }

/-- 'twistlocklaw34.YardAsks': WHATEVER THE INPUT: true; the input reads as it did. -/
def yardAsksSpec : ChangeSpec := { name := "yardAsks", fn := fun _ => fun
  | [d1, d2] => { results := [.lit (.bool true)], args := [d1, d2] }
  | _ => none }
def yardAsksRow : OpenClaim := { program := "ytfdmndkoiheebaa", sum := "6760d3ddbf7ad5bf822d962c780df40861d0415d021203efb1795e64f2794da4", func := "twistlock/twistlocklaw34.YardAsks", spec := "yardAsks", apart := false }
def YardAsksSaid : Prop := yardAsksRow.holds Try.pinned (OpenSpec.ofChange yardAsksSpec)

/-- ITS FALSE NEIGHBOUR: 'it returns false'. Refute it at one input. -/
def yardAsksWrong : ChangeSpec := { name := "yardAsks", fn := fun _ => fun
  | [d1, d2] => { results := [.lit (.bool false)], args := [d1, d2] }
  | _ => none }
def YardAsksWrongFalsely : Prop := yardAsksRow.holds Try.pinned (OpenSpec.ofChange yardAsksWrong)

/-- 'twistlocklaw34.YardChanges': WHATEVER THE INPUT: true; the input reads as it did. -/
def yardChangesSpec : ChangeSpec := { name := "yardChanges", fn := fun _ => fun
  | [d1, d2, d3, d4] => { results := [.lit (.bool true)], args := [d1, d2, d3, d4] }
  | _ => none }
def yardChangesRow : OpenClaim := { program := "ytfdmndkoiheebaa", sum := "6760d3ddbf7ad5bf822d962c780df40861d0415d021203efb1795e64f2794da4", func := "twistlock/twistlocklaw34.YardChanges", spec := "yardChanges", apart := false }
def YardChangesSaid : Prop := yardChangesRow.holds Try.pinned (OpenSpec.ofChange yardChangesSpec)

/-- ITS FALSE NEIGHBOUR: 'it returns false'. Refute it at one input. -/
def yardChangesWrong : ChangeSpec := { name := "yardChanges", fn := fun _ => fun
  | [d1, d2, d3, d4] => { results := [.lit (.bool false)], args := [d1, d2, d3, d4] }
  | _ => none }
def YardChangesWrongFalsely : Prop := yardChangesRow.holds Try.pinned (OpenSpec.ofChange yardChangesWrong)

/-- 'twistlocklaw34.YardFinds': WHATEVER THE INPUT: true; the input reads as it did. -/
def yardFindsSpec : ChangeSpec := { name := "yardFinds", fn := fun _ => fun
  | [d1, d2, d3, d4] => { results := [.lit (.bool true)], args := [d1, d2, d3, d4] }
  | _ => none }
def yardFindsRow : OpenClaim := { program := "ytfdmndkoiheebaa", sum := "6760d3ddbf7ad5bf822d962c780df40861d0415d021203efb1795e64f2794da4", func := "twistlock/twistlocklaw34.YardFinds", spec := "yardFinds", apart := false }
def YardFindsSaid : Prop := yardFindsRow.holds Try.pinned (OpenSpec.ofChange yardFindsSpec)

/-- ITS FALSE NEIGHBOUR: 'it returns false'. Refute it at one input. -/
def yardFindsWrong : ChangeSpec := { name := "yardFinds", fn := fun _ => fun
  | [d1, d2, d3, d4] => { results := [.lit (.bool false)], args := [d1, d2, d3, d4] }
  | _ => none }
def YardFindsWrongFalsely : Prop := yardFindsRow.holds Try.pinned (OpenSpec.ofChange yardFindsWrong)

/-- 'twistlocklaw34.YardPlays': WHATEVER THE INPUT: true; the input reads as it did. -/
def yardPlaysSpec : ChangeSpec := { name := "yardPlays", fn := fun _ => fun
  | [d1, d2] => { results := [.lit (.bool true)], args := [d1, d2] }
  | _ => none }
def yardPlaysRow : OpenClaim := { program := "ytfdmndkoiheebaa", sum := "6760d3ddbf7ad5bf822d962c780df40861d0415d021203efb1795e64f2794da4", func := "twistlock/twistlocklaw34.YardPlays", spec := "yardPlays", apart := false }
def YardPlaysSaid : Prop := yardPlaysRow.holds Try.pinned (OpenSpec.ofChange yardPlaysSpec)

/-- ITS FALSE NEIGHBOUR: 'it returns false'. Refute it at one input. -/
def yardPlaysWrong : ChangeSpec := { name := "yardPlays", fn := fun _ => fun
  | [d1, d2] => { results := [.lit (.bool false)], args := [d1, d2] }
  | _ => none }
def YardPlaysWrongFalsely : Prop := yardPlaysRow.holds Try.pinned (OpenSpec.ofChange yardPlaysWrong)

/-- 'twistlocklaw34.YardSmall': WHATEVER THE INPUT: true; the input reads as it did. -/
def yardSmallSpec : ChangeSpec := { name := "yardSmall", fn := fun _ => fun
  | [] => { results := [.lit (.bool true)], args := [] }
  | _ => none }
def yardSmallRow : OpenClaim := { program := "ytfdmndkoiheebaa", sum := "6760d3ddbf7ad5bf822d962c780df40861d0415d021203efb1795e64f2794da4", func := "twistlock/twistlocklaw34.YardSmall", spec := "yardSmall", apart := false }
def YardSmallSaid : Prop := yardSmallRow.holds Try.pinned (OpenSpec.ofChange yardSmallSpec)

/-- ITS FALSE NEIGHBOUR: 'it returns false'. Refute it at one input. -/
def yardSmallWrong : ChangeSpec := { name := "yardSmall", fn := fun _ => fun
  | [] => { results := [.lit (.bool false)], args := [] }
  | _ => none }
def YardSmallWrongFalsely : Prop := yardSmallRow.holds Try.pinned (OpenSpec.ofChange yardSmallWrong)

/-- 'twistlocklaw34.YardMoves': WHATEVER THE INPUT: true; the input reads as it did. -/
def yardMovesSpec : ChangeSpec := { name := "yardMoves", fn := fun _ => fun
  | [d1, d2, d3, d4] => { results := [.lit (.bool true)], args := [d1, d2, d3, d4] }
  | _ => none }
def yardMovesRow : OpenClaim := { program := "ytfdmndkoiheebaa", sum := "6760d3ddbf7ad5bf822d962c780df40861d0415d021203efb1795e64f2794da4", func := "twistlock/twistlocklaw34.YardMoves", spec := "yardMoves", apart := false }
def YardMovesSaid : Prop := yardMovesRow.holds Try.pinned (OpenSpec.ofChange yardMovesSpec)

/-- ITS FALSE NEIGHBOUR: 'it returns false'. Refute it at one input. -/
def yardMovesWrong : ChangeSpec := { name := "yardMoves", fn := fun _ => fun
  | [d1, d2, d3, d4] => { results := [.lit (.bool false)], args := [d1, d2, d3, d4] }
  | _ => none }
def YardMovesWrongFalsely : Prop := yardMovesRow.holds Try.pinned (OpenSpec.ofChange yardMovesWrong)

/-- 'twistlocklaw34.YardWrong': WHATEVER THE INPUT: true; the input reads as it did. -/
def yardWrongSpec : ChangeSpec := { name := "yardWrong", fn := fun _ => fun
  | [d1, d2, d3, d4, d5] => { results := [.lit (.bool true)], args := [d1, d2, d3, d4, d5] }
  | _ => none }
def yardWrongRow : OpenClaim := { program := "ytfdmndkoiheebaa", sum := "6760d3ddbf7ad5bf822d962c780df40861d0415d021203efb1795e64f2794da4", func := "twistlock/twistlocklaw34.YardWrong", spec := "yardWrong", apart := false }
def YardWrongSaid : Prop := yardWrongRow.holds Try.pinned (OpenSpec.ofChange yardWrongSpec)

/-- ITS FALSE NEIGHBOUR: 'it returns false'. Refute it at one input. -/
def yardWrongWrong : ChangeSpec := { name := "yardWrong", fn := fun _ => fun
  | [d1, d2, d3, d4, d5] => { results := [.lit (.bool false)], args := [d1, d2, d3, d4, d5] }
  | _ => none }
def YardWrongWrongFalsely : Prop := yardWrongRow.holds Try.pinned (OpenSpec.ofChange yardWrongWrong)

/-- 'twistlocklaw35.RetrieveFewest': WHATEVER THE INPUT: true; the input reads as it did. -/
def retrieveFewestSpec : ChangeSpec := { name := "retrieveFewest", fn := fun _ => fun
  | [d1, d2, d3, d4] => { results := [.lit (.bool true)], args := [d1, d2, d3, d4] }
  | _ => none }
def retrieveFewestRow : OpenClaim := { program := "ytfdmndkoiheebaa", sum := "6760d3ddbf7ad5bf822d962c780df40861d0415d021203efb1795e64f2794da4", func := "twistlock/twistlocklaw35.RetrieveFewest", spec := "retrieveFewest", unfollowed := true, recurses := true, apart := false }
def RetrieveFewestSaid : Prop := retrieveFewestRow.holds Try.pinned (OpenSpec.ofChange retrieveFewestSpec)

/-- ITS FALSE NEIGHBOUR: 'it returns false'. Refute it at one input. -/
def retrieveFewestWrong : ChangeSpec := { name := "retrieveFewest", fn := fun _ => fun
  | [d1, d2, d3, d4] => { results := [.lit (.bool false)], args := [d1, d2, d3, d4] }
  | _ => none }
def RetrieveFewestWrongFalsely : Prop := retrieveFewestRow.holds Try.pinned (OpenSpec.ofChange retrieveFewestWrong)

/-- 'twistlocklaw35.RetrieveChecks': WHATEVER THE INPUT: true; the input reads as it did. -/
def retrieveChecksSpec : ChangeSpec := { name := "retrieveChecks", fn := fun _ => fun
  | [d1, d2, d3] => { results := [.lit (.bool true)], args := [d1, d2, d3] }
  | _ => none }
def retrieveChecksRow : OpenClaim := { program := "ytfdmndkoiheebaa", sum := "6760d3ddbf7ad5bf822d962c780df40861d0415d021203efb1795e64f2794da4", func := "twistlock/twistlocklaw35.RetrieveChecks", spec := "retrieveChecks", unfollowed := true, recurses := true, apart := false }
def RetrieveChecksSaid : Prop := retrieveChecksRow.holds Try.pinned (OpenSpec.ofChange retrieveChecksSpec)

/-- ITS FALSE NEIGHBOUR: 'it returns false'. Refute it at one input. -/
def retrieveChecksWrong : ChangeSpec := { name := "retrieveChecks", fn := fun _ => fun
  | [d1, d2, d3] => { results := [.lit (.bool false)], args := [d1, d2, d3] }
  | _ => none }
def RetrieveChecksWrongFalsely : Prop := retrieveChecksRow.holds Try.pinned (OpenSpec.ofChange retrieveChecksWrong)

/-- 'twistlocklaw35.RetrieveBounds': WHATEVER THE INPUT: true; the input reads as it did. -/
def retrieveBoundsSpec : ChangeSpec := { name := "retrieveBounds", fn := fun _ => fun
  | [d1, d2, d3, d4, d5] => { results := [.lit (.bool true)], args := [d1, d2, d3, d4, d5] }
  | _ => none }
def retrieveBoundsRow : OpenClaim := { program := "ytfdmndkoiheebaa", sum := "6760d3ddbf7ad5bf822d962c780df40861d0415d021203efb1795e64f2794da4", func := "twistlock/twistlocklaw35.RetrieveBounds", spec := "retrieveBounds", unfollowed := true, recurses := true, apart := false }
def RetrieveBoundsSaid : Prop := retrieveBoundsRow.holds Try.pinned (OpenSpec.ofChange retrieveBoundsSpec)

/-- ITS FALSE NEIGHBOUR: 'it returns false'. Refute it at one input. -/
def retrieveBoundsWrong : ChangeSpec := { name := "retrieveBounds", fn := fun _ => fun
  | [d1, d2, d3, d4, d5] => { results := [.lit (.bool false)], args := [d1, d2, d3, d4, d5] }
  | _ => none }
def RetrieveBoundsWrongFalsely : Prop := retrieveBoundsRow.holds Try.pinned (OpenSpec.ofChange retrieveBoundsWrong)

/-- 'twistlocklaw35.RetrieveRuns': WHATEVER THE INPUT: true; the input reads as it did. -/
def retrieveRunsSpec : ChangeSpec := { name := "retrieveRuns", fn := fun _ => fun
  | [d1, d2] => { results := [.lit (.bool true)], args := [d1, d2] }
  | _ => none }
def retrieveRunsRow : OpenClaim := { program := "ytfdmndkoiheebaa", sum := "6760d3ddbf7ad5bf822d962c780df40861d0415d021203efb1795e64f2794da4", func := "twistlock/twistlocklaw35.RetrieveRuns", spec := "retrieveRuns", unfollowed := true, recurses := true, apart := false }
def RetrieveRunsSaid : Prop := retrieveRunsRow.holds Try.pinned (OpenSpec.ofChange retrieveRunsSpec)

/-- ITS FALSE NEIGHBOUR: 'it returns false'. Refute it at one input. -/
def retrieveRunsWrong : ChangeSpec := { name := "retrieveRuns", fn := fun _ => fun
  | [d1, d2] => { results := [.lit (.bool false)], args := [d1, d2] }
  | _ => none }
def RetrieveRunsWrongFalsely : Prop := retrieveRunsRow.holds Try.pinned (OpenSpec.ofChange retrieveRunsWrong)

/-- 'twistlocklaw35.RetrieveLeast': WHATEVER THE INPUT: true; the input reads as it did. -/
def retrieveLeastSpec : ChangeSpec := { name := "retrieveLeast", fn := fun _ => fun
  | [d1, d2] => { results := [.lit (.bool true)], args := [d1, d2] }
  | _ => none }
def retrieveLeastRow : OpenClaim := { program := "ytfdmndkoiheebaa", sum := "6760d3ddbf7ad5bf822d962c780df40861d0415d021203efb1795e64f2794da4", func := "twistlock/twistlocklaw35.RetrieveLeast", spec := "retrieveLeast", unfollowed := true, recurses := true, apart := false }
def RetrieveLeastSaid : Prop := retrieveLeastRow.holds Try.pinned (OpenSpec.ofChange retrieveLeastSpec)

/-- ITS FALSE NEIGHBOUR: 'it returns false'. Refute it at one input. -/
def retrieveLeastWrong : ChangeSpec := { name := "retrieveLeast", fn := fun _ => fun
  | [d1, d2] => { results := [.lit (.bool false)], args := [d1, d2] }
  | _ => none }
def RetrieveLeastWrongFalsely : Prop := retrieveLeastRow.holds Try.pinned (OpenSpec.ofChange retrieveLeastWrong)

/-- 'twistlocklaw35.RetrieveWrong': WHATEVER THE INPUT: true; the input reads as it did. -/
def retrieveWrongSpec : ChangeSpec := { name := "retrieveWrong", fn := fun _ => fun
  | [d1, d2, d3, d4, d5] => { results := [.lit (.bool true)], args := [d1, d2, d3, d4, d5] }
  | _ => none }
def retrieveWrongRow : OpenClaim := { program := "ytfdmndkoiheebaa", sum := "6760d3ddbf7ad5bf822d962c780df40861d0415d021203efb1795e64f2794da4", func := "twistlock/twistlocklaw35.RetrieveWrong", spec := "retrieveWrong", unfollowed := true, recurses := true, apart := false }
def RetrieveWrongSaid : Prop := retrieveWrongRow.holds Try.pinned (OpenSpec.ofChange retrieveWrongSpec)

/-- ITS FALSE NEIGHBOUR: 'it returns false'. Refute it at one input. -/
def retrieveWrongWrong : ChangeSpec := { name := "retrieveWrong", fn := fun _ => fun
  | [d1, d2, d3, d4, d5] => { results := [.lit (.bool false)], args := [d1, d2, d3, d4, d5] }
  | _ => none }
def RetrieveWrongWrongFalsely : Prop := retrieveWrongRow.holds Try.pinned (OpenSpec.ofChange retrieveWrongWrong)

/-- 'twistlocklaw35.RetrieveSmall': WHATEVER THE INPUT: true; the input reads as it did. -/
def retrieveSmallSpec : ChangeSpec := { name := "retrieveSmall", fn := fun _ => fun
  | [] => { results := [.lit (.bool true)], args := [] }
  | _ => none }
def retrieveSmallRow : OpenClaim := { program := "ytfdmndkoiheebaa", sum := "6760d3ddbf7ad5bf822d962c780df40861d0415d021203efb1795e64f2794da4", func := "twistlock/twistlocklaw35.RetrieveSmall", spec := "retrieveSmall", unfollowed := true, recurses := true, apart := false }
def RetrieveSmallSaid : Prop := retrieveSmallRow.holds Try.pinned (OpenSpec.ofChange retrieveSmallSpec)

/-- ITS FALSE NEIGHBOUR: 'it returns false'. Refute it at one input. -/
def retrieveSmallWrong : ChangeSpec := { name := "retrieveSmall", fn := fun _ => fun
  | [] => { results := [.lit (.bool false)], args := [] }
  | _ => none }
def RetrieveSmallWrongFalsely : Prop := retrieveSmallRow.holds Try.pinned (OpenSpec.ofChange retrieveSmallWrong)

/- THE SECOND FORM. 'bulk': how many values and letters a reading holds, each counted each time it is reached (what is shared counts as often as it is met; a slice's spare places count too). A statement '..UptoSaid' is the law's where the arguments, and the package variables that the reading takes, are together of bulk at most 1048576: NARROWER than '..Said'. Prove '..Said' where nothing that the law and all that it calls make is longer than what came in: it says more and counts as full. Else prove '..UptoSaid'. A law counts once. -/
mutual
def uptoBulk {H : Type} : DataW H → Nat
  | .lit (.string bytes) => bytes.length + 1
  | .lit _ => 1
  | .nil => 1
  | .ptr d => uptoBulk d + 1
  | .slice elems spare => uptoBulkAll elems + uptoBulkAll spare + 1
  | .agg parts => uptoBulkAll parts + 1
  | .iface _ d => uptoBulk d + 1
  | .map entries => uptoBulkEntries entries + 1
  | .held _ => 1
def uptoBulkAll {H : Type} : List (DataW H) → Nat
  | [] => 0
  | d :: r => uptoBulk d + uptoBulkAll r
def uptoBulkEntries {H : Type} : List (Lit × DataW H) → Nat
  | [] => 0
  | x :: r => uptoBulkEntry x + uptoBulkEntries r
def uptoBulkEntry {H : Type} : Lit × DataW H → Nat
  | (.string bytes, d) => bytes.length + uptoBulk d + 1
  | (_, d) => uptoBulk d + 1
 end
def uptoSmall : (H : Type) → List (DataW H) → Bool := fun _ ds => decide (uptoBulkAll ds ≤ 1048576)
def OpenSpec.upto (s : _root_.Go.ChangeSpec) : _root_.Go.OpenSpec := { _root_.Go.OpenSpec.ofChange s with cond := some uptoSmall }

/-- 'twistlocklaw34.YardAsks', WHERE WHAT IT READS IS OF BULK AT MOST 1048576: true; the input reads as it did. -/
def yardAsksUptoRow : OpenClaim := { program := "ytfdmndkoiheebaa", sum := "6760d3ddbf7ad5bf822d962c780df40861d0415d021203efb1795e64f2794da4", func := "twistlock/twistlocklaw34.YardAsks", spec := "yardAsks", apart := false, narrowed := true }
def YardAsksUptoSaid : Prop := yardAsksUptoRow.holds Try.pinned (OpenSpec.upto yardAsksSpec)

/-- 'twistlocklaw34.YardChanges', WHERE WHAT IT READS IS OF BULK AT MOST 1048576: true; the input reads as it did. -/
def yardChangesUptoRow : OpenClaim := { program := "ytfdmndkoiheebaa", sum := "6760d3ddbf7ad5bf822d962c780df40861d0415d021203efb1795e64f2794da4", func := "twistlock/twistlocklaw34.YardChanges", spec := "yardChanges", apart := false, narrowed := true }
def YardChangesUptoSaid : Prop := yardChangesUptoRow.holds Try.pinned (OpenSpec.upto yardChangesSpec)

/-- 'twistlocklaw34.YardFinds', WHERE WHAT IT READS IS OF BULK AT MOST 1048576: true; the input reads as it did. -/
def yardFindsUptoRow : OpenClaim := { program := "ytfdmndkoiheebaa", sum := "6760d3ddbf7ad5bf822d962c780df40861d0415d021203efb1795e64f2794da4", func := "twistlock/twistlocklaw34.YardFinds", spec := "yardFinds", apart := false, narrowed := true }
def YardFindsUptoSaid : Prop := yardFindsUptoRow.holds Try.pinned (OpenSpec.upto yardFindsSpec)

/-- 'twistlocklaw34.YardPlays', WHERE WHAT IT READS IS OF BULK AT MOST 1048576: true; the input reads as it did. -/
def yardPlaysUptoRow : OpenClaim := { program := "ytfdmndkoiheebaa", sum := "6760d3ddbf7ad5bf822d962c780df40861d0415d021203efb1795e64f2794da4", func := "twistlock/twistlocklaw34.YardPlays", spec := "yardPlays", apart := false, narrowed := true }
def YardPlaysUptoSaid : Prop := yardPlaysUptoRow.holds Try.pinned (OpenSpec.upto yardPlaysSpec)

/-- 'twistlocklaw34.YardSmall', WHERE WHAT IT READS IS OF BULK AT MOST 1048576: true; the input reads as it did. -/
def yardSmallUptoRow : OpenClaim := { program := "ytfdmndkoiheebaa", sum := "6760d3ddbf7ad5bf822d962c780df40861d0415d021203efb1795e64f2794da4", func := "twistlock/twistlocklaw34.YardSmall", spec := "yardSmall", apart := false, narrowed := true }
def YardSmallUptoSaid : Prop := yardSmallUptoRow.holds Try.pinned (OpenSpec.upto yardSmallSpec)

/-- 'twistlocklaw34.YardMoves', WHERE WHAT IT READS IS OF BULK AT MOST 1048576: true; the input reads as it did. -/
def yardMovesUptoRow : OpenClaim := { program := "ytfdmndkoiheebaa", sum := "6760d3ddbf7ad5bf822d962c780df40861d0415d021203efb1795e64f2794da4", func := "twistlock/twistlocklaw34.YardMoves", spec := "yardMoves", apart := false, narrowed := true }
def YardMovesUptoSaid : Prop := yardMovesUptoRow.holds Try.pinned (OpenSpec.upto yardMovesSpec)

/-- 'twistlocklaw34.YardWrong', WHERE WHAT IT READS IS OF BULK AT MOST 1048576: true; the input reads as it did. -/
def yardWrongUptoRow : OpenClaim := { program := "ytfdmndkoiheebaa", sum := "6760d3ddbf7ad5bf822d962c780df40861d0415d021203efb1795e64f2794da4", func := "twistlock/twistlocklaw34.YardWrong", spec := "yardWrong", apart := false, narrowed := true }
def YardWrongUptoSaid : Prop := yardWrongUptoRow.holds Try.pinned (OpenSpec.upto yardWrongSpec)

/-- 'twistlocklaw35.RetrieveFewest', WHERE WHAT IT READS IS OF BULK AT MOST 1048576: true; the input reads as it did. -/
def retrieveFewestUptoRow : OpenClaim := { program := "ytfdmndkoiheebaa", sum := "6760d3ddbf7ad5bf822d962c780df40861d0415d021203efb1795e64f2794da4", func := "twistlock/twistlocklaw35.RetrieveFewest", spec := "retrieveFewest", unfollowed := true, recurses := true, apart := false, narrowed := true }
def RetrieveFewestUptoSaid : Prop := retrieveFewestUptoRow.holds Try.pinned (OpenSpec.upto retrieveFewestSpec)

/-- 'twistlocklaw35.RetrieveChecks', WHERE WHAT IT READS IS OF BULK AT MOST 1048576: true; the input reads as it did. -/
def retrieveChecksUptoRow : OpenClaim := { program := "ytfdmndkoiheebaa", sum := "6760d3ddbf7ad5bf822d962c780df40861d0415d021203efb1795e64f2794da4", func := "twistlock/twistlocklaw35.RetrieveChecks", spec := "retrieveChecks", unfollowed := true, recurses := true, apart := false, narrowed := true }
def RetrieveChecksUptoSaid : Prop := retrieveChecksUptoRow.holds Try.pinned (OpenSpec.upto retrieveChecksSpec)

/-- 'twistlocklaw35.RetrieveBounds', WHERE WHAT IT READS IS OF BULK AT MOST 1048576: true; the input reads as it did. -/
def retrieveBoundsUptoRow : OpenClaim := { program := "ytfdmndkoiheebaa", sum := "6760d3ddbf7ad5bf822d962c780df40861d0415d021203efb1795e64f2794da4", func := "twistlock/twistlocklaw35.RetrieveBounds", spec := "retrieveBounds", unfollowed := true, recurses := true, apart := false, narrowed := true }
def RetrieveBoundsUptoSaid : Prop := retrieveBoundsUptoRow.holds Try.pinned (OpenSpec.upto retrieveBoundsSpec)

/-- 'twistlocklaw35.RetrieveRuns', WHERE WHAT IT READS IS OF BULK AT MOST 1048576: true; the input reads as it did. -/
def retrieveRunsUptoRow : OpenClaim := { program := "ytfdmndkoiheebaa", sum := "6760d3ddbf7ad5bf822d962c780df40861d0415d021203efb1795e64f2794da4", func := "twistlock/twistlocklaw35.RetrieveRuns", spec := "retrieveRuns", unfollowed := true, recurses := true, apart := false, narrowed := true }
def RetrieveRunsUptoSaid : Prop := retrieveRunsUptoRow.holds Try.pinned (OpenSpec.upto retrieveRunsSpec)

/-- 'twistlocklaw35.RetrieveLeast', WHERE WHAT IT READS IS OF BULK AT MOST 1048576: true; the input reads as it did. -/
def retrieveLeastUptoRow : OpenClaim := { program := "ytfdmndkoiheebaa", sum := "6760d3ddbf7ad5bf822d962c780df40861d0415d021203efb1795e64f2794da4", func := "twistlock/twistlocklaw35.RetrieveLeast", spec := "retrieveLeast", unfollowed := true, recurses := true, apart := false, narrowed := true }
def RetrieveLeastUptoSaid : Prop := retrieveLeastUptoRow.holds Try.pinned (OpenSpec.upto retrieveLeastSpec)

/-- 'twistlocklaw35.RetrieveWrong', WHERE WHAT IT READS IS OF BULK AT MOST 1048576: true; the input reads as it did. -/
def retrieveWrongUptoRow : OpenClaim := { program := "ytfdmndkoiheebaa", sum := "6760d3ddbf7ad5bf822d962c780df40861d0415d021203efb1795e64f2794da4", func := "twistlock/twistlocklaw35.RetrieveWrong", spec := "retrieveWrong", unfollowed := true, recurses := true, apart := false, narrowed := true }
def RetrieveWrongUptoSaid : Prop := retrieveWrongUptoRow.holds Try.pinned (OpenSpec.upto retrieveWrongSpec)

/-- 'twistlocklaw35.RetrieveSmall', WHERE WHAT IT READS IS OF BULK AT MOST 1048576: true; the input reads as it did. -/
def retrieveSmallUptoRow : OpenClaim := { program := "ytfdmndkoiheebaa", sum := "6760d3ddbf7ad5bf822d962c780df40861d0415d021203efb1795e64f2794da4", func := "twistlock/twistlocklaw35.RetrieveSmall", spec := "retrieveSmall", unfollowed := true, recurses := true, apart := false, narrowed := true }
def RetrieveSmallUptoSaid : Prop := retrieveSmallUptoRow.holds Try.pinned (OpenSpec.upto retrieveSmallSpec)

end Rows
end Go.Proofs.Ytfdmndkoiheebaa
