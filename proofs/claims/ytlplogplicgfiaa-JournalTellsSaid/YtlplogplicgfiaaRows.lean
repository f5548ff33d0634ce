/-
  No cell of these rows narrows 'for every input' (looked for: loops, veiled, ifaces, maps, wideKeys, modest, calm, conditions, laid).
  DERIVED. THE GIVEN ROWS OF THIS SEAT. 10 by the template 'for every input the law returns true; each argument reads behind the call as it read before'; 0 by the template 'total and deterministic' (their statements: YtlplogplicgfiaaTotals.lean).
  GIVEN WITH THE SEED: the statements are not yours to turn. If you find one false, say at which input.
  Laid BY PROGRAM, IN A SANDBOX (cutbox-rows.mjs): the forced cells as the released guide's own fill.sh prints them over the translation 80495bd0086c827a… (all of the seat's roots in one cut). By AI agents, Wed Nov 11 2026. No macro, syntax, notation, axiom, sorry.
-/
import Derived.Test.YtlplogplicgfiaaChecked
import GoSem.Claim
import GoSem.ClaimJoined
import GoSem.ClaimMapViews
import Derived.JoinedTies
import Derived.KernelRfl
namespace Go.Proofs.Ytlplogplicgfiaa
/- THE CELL 'sum', in the pinned program and in every row, IS THE sha256 OF THE DUMP (.gsa) THAT YtlplogplicgfiaaProg.lean LOADS. Nothing in Lean hashes anything: it is a label: what it is worth is what the hold of that sum in a sandbox is worth. -/
noncomputable def Try.pinned : Pinned := { name := "ytlplogplicgfiaa", sum := "80495bd0086c827a01f1ceac7b96f194abda049a598599fbec1858261e4203bb", checked := Try.checked }
namespace Rows
def none {H : Type} : Left H := { results := [], args := [] }

/-- 'twistlocklaw42.JournalDisks': WHATEVER THE INPUT: true; the input reads as it did. -/
def journalDisksSpec : ChangeSpec := { name := "journalDisks", fn := fun _ => fun
  | [d1, d2, d3] => { results := [.lit (.bool true)], args := [d1, d2, d3] }
  | _ => none }
def journalDisksRow : OpenClaim := { program := "ytlplogplicgfiaa", sum := "80495bd0086c827a01f1ceac7b96f194abda049a598599fbec1858261e4203bb", func := "twistlock/twistlocklaw42.JournalDisks", spec := "journalDisks", unfollowed := true, recurses := true, apart := false }
def JournalDisksSaid : Prop := journalDisksRow.holds Try.pinned (OpenSpec.ofChange journalDisksSpec)

/-- ITS FALSE NEIGHBOUR: 'it returns false'. Refute it at one input. -/
def journalDisksWrong : ChangeSpec := { name := "journalDisks", fn := fun _ => fun
  | [d1, d2, d3] => { results := [.lit (.bool false)], args := [d1, d2, d3] }
  | _ => none }
def JournalDisksWrongFalsely : Prop := journalDisksRow.holds Try.pinned (OpenSpec.ofChange journalDisksWrong)

/-- 'twistlocklaw42.JournalTells': WHATEVER THE INPUT: true; the input reads as it did. -/
def journalTellsSpec : ChangeSpec := { name := "journalTells", fn := fun _ => fun
  | [d1, d2] => { results := [.lit (.bool true)], args := [d1, d2] }
  | _ => none }
def journalTellsRow : OpenClaim := { program := "ytlplogplicgfiaa", sum := "80495bd0086c827a01f1ceac7b96f194abda049a598599fbec1858261e4203bb", func := "twistlock/twistlocklaw42.JournalTells", spec := "journalTells", unfollowed := true, recurses := true, apart := false }
def JournalTellsSaid : Prop := journalTellsRow.holds Try.pinned (OpenSpec.ofChange journalTellsSpec)

/-- ITS FALSE NEIGHBOUR: 'it returns false'. Refute it at one input. -/
def journalTellsWrong : ChangeSpec := { name := "journalTells", fn := fun _ => fun
  | [d1, d2] => { results := [.lit (.bool false)], args := [d1, d2] }
  | _ => none }
def JournalTellsWrongFalsely : Prop := journalTellsRow.holds Try.pinned (OpenSpec.ofChange journalTellsWrong)

/-- 'twistlocklaw42.JournalOpens': WHATEVER THE INPUT: true; the input reads as it did. -/
def journalOpensSpec : ChangeSpec := { name := "journalOpens", fn := fun _ => fun
  | [d] => { results := [.lit (.bool true)], args := [d] }
  | _ => none }
def journalOpensRow : OpenClaim := { program := "ytlplogplicgfiaa", sum := "80495bd0086c827a01f1ceac7b96f194abda049a598599fbec1858261e4203bb", func := "twistlock/twistlocklaw42.JournalOpens", spec := "journalOpens", unfollowed := true, recurses := true, apart := false }
def JournalOpensSaid : Prop := journalOpensRow.holds Try.pinned (OpenSpec.ofChange journalOpensSpec)

/-- ITS FALSE NEIGHBOUR: 'it returns false'. Refute it at one input. -/
def journalOpensWrong : ChangeSpec := { name := "journalOpens", fn := fun _ => fun
  | [d] => { results := [.lit (.bool false)], args := [d] }
  | _ => none }
def JournalOpensWrongFalsely : Prop := journalOpensRow.holds Try.pinned (OpenSpec.ofChange journalOpensWrong)

/-- 'twistlocklaw42.JournalSmall': WHATEVER THE INPUT: true; the input reads as it did. -/
def journalSmallSpec : ChangeSpec := { name := "journalSmall", fn := fun _ => fun
  | [] => { results := [.lit (.bool true)], args := [] }
  | _ => none }
def journalSmallRow : OpenClaim := { program := "ytlplogplicgfiaa", sum := "80495bd0086c827a01f1ceac7b96f194abda049a598599fbec1858261e4203bb", func := "twistlock/twistlocklaw42.JournalSmall", spec := "journalSmall", unfollowed := true, recurses := true, apart := false }
def JournalSmallSaid : Prop := journalSmallRow.holds Try.pinned (OpenSpec.ofChange journalSmallSpec)

/-- ITS FALSE NEIGHBOUR: 'it returns false'. Refute it at one input. -/
def journalSmallWrong : ChangeSpec := { name := "journalSmall", fn := fun _ => fun
  | [] => { results := [.lit (.bool false)], args := [] }
  | _ => none }
def JournalSmallWrongFalsely : Prop := journalSmallRow.holds Try.pinned (OpenSpec.ofChange journalSmallWrong)

/-- 'twistlocklaw42.JournalKeeps': WHATEVER THE INPUT: true; the input reads as it did. -/
def journalKeepsSpec : ChangeSpec := { name := "journalKeeps", fn := fun _ => fun
  | [d1, d2] => { results := [.lit (.bool true)], args := [d1, d2] }
  | _ => none }
def journalKeepsRow : OpenClaim := { program := "ytlplogplicgfiaa", sum := "80495bd0086c827a01f1ceac7b96f194abda049a598599fbec1858261e4203bb", func := "twistlock/twistlocklaw42.JournalKeeps", spec := "journalKeeps", unfollowed := true, recurses := true, apart := false }
def JournalKeepsSaid : Prop := journalKeepsRow.holds Try.pinned (OpenSpec.ofChange journalKeepsSpec)

/-- ITS FALSE NEIGHBOUR: 'it returns false'. Refute it at one input. -/
def journalKeepsWrong : ChangeSpec := { name := "journalKeeps", fn := fun _ => fun
  | [d1, d2] => { results := [.lit (.bool false)], args := [d1, d2] }
  | _ => none }
def JournalKeepsWrongFalsely : Prop := journalKeepsRow.holds Try.pinned (OpenSpec.ofChange journalKeepsWrong)

/-- 'twistlocklaw42.JournalTwins': WHATEVER THE INPUT: true; the input reads as it did. -/
def journalTwinsSpec : ChangeSpec := { name := "journalTwins", fn := fun _ => fun
  | [d1, d2, d3] => { results := [.lit (.bool true)], args := [d1, d2, d3] }
  | _ => none }
def journalTwinsRow : OpenClaim := { program := "ytlplogplicgfiaa", sum := "80495bd0086c827a01f1ceac7b96f194abda049a598599fbec1858261e4203bb", func := "twistlock/twistlocklaw42.JournalTwins", spec := "journalTwins", unfollowed := true, recurses := true, apart := false }
def JournalTwinsSaid : Prop := journalTwinsRow.holds Try.pinned (OpenSpec.ofChange journalTwinsSpec)

/-- ITS FALSE NEIGHBOUR: 'it returns false'. Refute it at one input. -/
def journalTwinsWrong : ChangeSpec := { name := "journalTwins", fn := fun _ => fun
  | [d1, d2, d3] => { results := [.lit (.bool false)], args := [d1, d2, d3] }
  | _ => none }
def JournalTwinsWrongFalsely : Prop := journalTwinsRow.holds Try.pinned (OpenSpec.ofChange journalTwinsWrong)

/-- 'twistlocklaw42.JournalRooms': WHATEVER THE INPUT: true; the input reads as it did. -/
def journalRoomsSpec : ChangeSpec := { name := "journalRooms", fn := fun _ => fun
  | [d1, d2, d3] => { results := [.lit (.bool true)], args := [d1, d2, d3] }
  | _ => none }
def journalRoomsRow : OpenClaim := { program := "ytlplogplicgfiaa", sum := "80495bd0086c827a01f1ceac7b96f194abda049a598599fbec1858261e4203bb", func := "twistlock/twistlocklaw42.JournalRooms", spec := "journalRooms", unfollowed := true, recurses := true, apart := false }
def JournalRoomsSaid : Prop := journalRoomsRow.holds Try.pinned (OpenSpec.ofChange journalRoomsSpec)

/-- ITS FALSE NEIGHBOUR: 'it returns false'. Refute it at one input. -/
def journalRoomsWrong : ChangeSpec := { name := "journalRooms", fn := fun _ => fun
  | [d1, d2, d3] => { results := [.lit (.bool false)], args := [d1, d2, d3] }
  | _ => none }
def JournalRoomsWrongFalsely : Prop := journalRoomsRow.holds Try.pinned (OpenSpec.ofChange journalRoomsWrong)

/-- 'twistlocklaw42.JournalRot': WHATEVER THE INPUT: true; the input reads as it did. -/
def journalRotSpec : ChangeSpec := { name := "journalRot", fn := fun _ => fun
  | [d1, d2, d3] => { results := [.lit (.bool true)], args := [d1, d2, d3] }
  | _ => none }
def journalRotRow : OpenClaim := { program := "ytlplogplicgfiaa", sum := "80495bd0086c827a01f1ceac7b96f194abda049a598599fbec1858261e4203bb", func := "twistlock/twistlocklaw42.JournalRot", spec := "journalRot", unfollowed := true, recurses := true, apart := false }
def JournalRotSaid : Prop := journalRotRow.holds Try.pinned (OpenSpec.ofChange journalRotSpec)

/-- ITS FALSE NEIGHBOUR: 'it returns false'. Refute it at one input. -/
def journalRotWrong : ChangeSpec := { name := "journalRot", fn := fun _ => fun
  | [d1, d2, d3] => { results := [.lit (.bool false)], args := [d1, d2, d3] }
  | _ => none }
def JournalRotWrongFalsely : Prop := journalRotRow.holds Try.pinned (OpenSpec.ofChange journalRotWrong)

/-- 'twistlocklaw42.JournalRing': WHATEVER THE INPUT: true; the input reads as it did. -/
def journalRingSpec : ChangeSpec := { name := "journalRing", fn := fun _ => fun
  | [d1, d2] => { results := [.lit (.bool true)], args := [d1, d2] }
  | _ => none }
def journalRingRow : OpenClaim := { program := "ytlplogplicgfiaa", sum := "80495bd0086c827a01f1ceac7b96f194abda049a598599fbec1858261e4203bb", func := "twistlock/twistlocklaw42.JournalRing", spec := "journalRing", unfollowed := true, recurses := true, apart := false }
def JournalRingSaid : Prop := journalRingRow.holds Try.pinned (OpenSpec.ofChange journalRingSpec)

/-- ITS FALSE NEIGHBOUR: 'it returns false'. Refute it at one input. -/
def journalRingWrong : ChangeSpec := { name := "journalRing", fn := fun _ => fun
  | [d1, d2] => { results := [.lit (.bool false)], args := [d1, d2] }
  | _ => none }
def JournalRingWrongFalsely : Prop := journalRingRow.holds Try.pinned (OpenSpec.ofChange journalRingWrong)

/-- 'twistlocklaw42.JournalWrong': WHATEVER THE INPUT: true; the input reads as it did. -/
def journalWrongSpec : ChangeSpec := { name := "journalWrong", fn := fun _ => fun
  | [d1, d2, d3] => { results := [.lit (.bool true)], args := [d1, d2, d3] }
  | _ => none }
def journalWrongRow : OpenClaim := { program := "ytlplogplicgfiaa", sum := "80495bd0086c827a01f1ceac7b96f194abda049a598599fbec1858261e4203bb", func := "twistlock/twistlocklaw42.JournalWrong", spec := "journalWrong", unfollowed := true, recurses := true, apart := false }
def JournalWrongSaid : Prop := journalWrongRow.holds Try.pinned (OpenSpec.ofChange journalWrongSpec)

/-- ITS FALSE NEIGHBOUR: 'it returns false'. Refute it at one input. -/
def journalWrongWrong : ChangeSpec := { name := "journalWrong", fn := fun _ => fun
  | [d1, d2, d3] => { results := [.lit (.bool false)], args := [d1, d2, d3] }
  | _ => none }
def JournalWrongWrongFalsely : Prop := journalWrongRow.holds Try.pinned (OpenSpec.ofChange journalWrongWrong)

/- THE SECOND FORM. 'bulk': how many values and letters a reading holds, each counted each time it is reached (what is shared counts as often as it is met; a slice's spare places count too). A statement '..UptoSaid' is the law's where the arguments, and the package variables that the reading takes, are together of bulk at most 1048576: NARROWER than '..Said'. Prove '..Said' where nothing that the law and all that it calls make is longer than what came in: it says more and counts as full. Else prove '..UptoSaid'. A law counts once. -/
mutual
def uptoBulk {H : Type} : DataW H → Nat
  | .lit (.string bytes) => bytes.length + 1
  | .lit _ => 1
  | .nil => 1
  | .ptr d => uptoBulk d + 1
  | .slice elems spare => uptoBulkAll elems + uptoBulkAll spare + 1
  | .agg parts => uptoBulkAll parts + 1
  | .iface _ d => uptoBulk d + 1
  | .map entries => uptoBulkEntries entries + 1
  | .held _ => 1
def uptoBulkAll {H : Type} : List (DataW H) → Nat
  | [] => 0
  | d :: r => uptoBulk d + uptoBulkAll r
def uptoBulkEntries {H : Type} : List (Lit × DataW H) → Nat
  | [] => 0
  | x :: r => uptoBulkEntry x + uptoBulkEntries r
def uptoBulkEntry {H : Type} : Lit × DataW H → Nat
  | (.string bytes, d) => bytes.length + uptoBulk d + 1
  | (_, d) => uptoBulk d + 1
 end
def uptoSmall : (H : Type) → List (DataW H) → Bool := fun _ ds => decide (uptoBulkAll ds ≤ 1048576)
def OpenSpec.upto (s : _root_.Go.ChangeSpec) : _root_.Go.OpenSpec := { _root_.Go.OpenSpec.ofChange s with cond := some uptoSmall }

/-- 'twistlocklaw42.JournalDisks', WHERE WHAT IT READS IS OF BULK AT MOST 1048576: true; the input reads as it did. -/
def journalDisksUptoRow : OpenClaim := { program := "ytlplogplicgfiaa", sum := "80495bd0086c827a01f1ceac7b96f194abda049a598599fbec1858261e4203bb", func := "twistlock/twistlocklaw42.JournalDisks", spec := "journalDisks", unfollowed := true, recurses := true, apart := false, narrowed := true }
def JournalDisksUptoSaid : Prop := journalDisksUptoRow.holds Try.pinned (OpenSpec.upto journalDisksSpec)

/-- 'twistlocklaw42.JournalTells', WHERE WHAT IT READS IS OF BULK AT MOST 1048576: true; the input reads as it did. -/
def journalTellsUptoRow : OpenClaim := { program := "ytlplogplicgfiaa", sum := "80495bd0086c827a01f1ceac7b96f194abda049a598599fbec1858261e4203bb", func := "twistlock/twistlocklaw42.JournalTells", spec := "journalTells", unfollowed := true, recurses := true, apart := false, narrowed := true }
def JournalTellsUptoSaid : Prop := journalTellsUptoRow.holds Try.pinned (OpenSpec.upto journalTellsSpec)

/-- 'twistlocklaw42.JournalOpens', WHERE WHAT IT READS IS OF BULK AT MOST 1048576: true; the input reads as it did. -/
def journalOpensUptoRow : OpenClaim := { program := "ytlplogplicgfiaa", sum := "80495bd0086c827a01f1ceac7b96f194abda049a598599fbec1858261e4203bb", func := "twistlock/twistlocklaw42.JournalOpens", spec := "journalOpens", unfollowed := true, recurses := true, apart := false, narrowed := true }
def JournalOpensUptoSaid : Prop := journalOpensUptoRow.holds Try.pinned (OpenSpec.upto journalOpensSpec)

/-- 'twistlocklaw42.JournalSmall', WHERE WHAT IT READS IS OF BULK AT MOST 1048576: true; the input reads as it did. -/
def journalSmallUptoRow : OpenClaim := { program := "ytlplogplicgfiaa", sum := "80495bd0086c827a01f1ceac7b96f194abda049a598599fbec1858261e4203bb", func := "twistlock/twistlocklaw42.JournalSmall", spec := "journalSmall", unfollowed := true, recurses := true, apart := false, narrowed := true }
def JournalSmallUptoSaid : Prop := journalSmallUptoRow.holds Try.pinned (OpenSpec.upto journalSmallSpec)

/-- 'twistlocklaw42.JournalKeeps', WHERE WHAT IT READS IS OF BULK AT MOST 1048576: true; the input reads as it did. -/
def journalKeepsUptoRow : OpenClaim := { program := "ytlplogplicgfiaa", sum := "80495bd0086c827a01f1ceac7b96f194abda049a598599fbec1858261e4203bb", func := "twistlock/twistlocklaw42.JournalKeeps", spec := "journalKeeps", unfollowed := true, recurses := true, apart := false, narrowed := true }
def JournalKeepsUptoSaid : Prop := journalKeepsUptoRow.holds Try.pinned (OpenSpec.upto journalKeepsSpec)

/-- 'twistlocklaw42.JournalTwins', WHERE WHAT IT READS IS OF BULK AT MOST 1048576: true; the input reads as it did. -/
def journalTwinsUptoRow : OpenClaim := { program := "ytlplogplicgfiaa", sum := "80495bd0086c827a01f1ceac7b96f194abda049a598599fbec1858261e4203bb", func := "twistlock/twistlocklaw42.JournalTwins", spec := "journalTwins", unfollowed := true, recurses := true, apart := false, narrowed := true }
def JournalTwinsUptoSaid : Prop := journalTwinsUptoRow.holds Try.pinned (OpenSpec.upto journalTwinsSpec)

/-- 'twistlocklaw42.JournalRooms', WHERE WHAT IT READS IS OF BULK AT MOST 1048576: true; the input reads as it did. -/
def journalRoomsUptoRow : OpenClaim := { program := "ytlplogplicgfiaa", sum := "80495bd0086c827a01f1ceac7b96f194abda049a598599fbec1858261e4203bb", func := "twistlock/twistlocklaw42.JournalRooms", spec := "journalRooms", unfollowed := true, recurses := true, apart := false, narrowed := true }
def JournalRoomsUptoSaid : Prop := journalRoomsUptoRow.holds Try.pinned (OpenSpec.upto journalRoomsSpec)

/-- 'twistlocklaw42.JournalRot', WHERE WHAT IT READS IS OF BULK AT MOST 1048576: true; the input reads as it did. -/
def journalRotUptoRow : OpenClaim := { program := "ytlplogplicgfiaa", sum := "80495bd0086c827a01f1ceac7b96f194abda049a598599fbec1858261e4203bb", func := "twistlock/twistlocklaw42.JournalRot", spec := "journalRot", unfollowed := true, recurses := true, apart := false, narrowed := true }
def JournalRotUptoSaid : Prop := journalRotUptoRow.holds Try.pinned (OpenSpec.upto journalRotSpec)

/-- 'twistlocklaw42.JournalRing', WHERE WHAT IT READS IS OF BULK AT MOST 1048576: true; the input reads as it did. -/
def journalRingUptoRow : OpenClaim := { program := "ytlplogplicgfiaa", sum := "80495bd0086c827a01f1ceac7b96f194abda049a598599fbec1858261e4203bb", func := "twistlock/twistlocklaw42.JournalRing", spec := "journalRing", unfollowed := true, recurses := true, apart := false, narrowed := true }
def JournalRingUptoSaid : Prop := journalRingUptoRow.holds Try.pinned (OpenSpec.upto journalRingSpec)

/-- 'twistlocklaw42.JournalWrong', WHERE WHAT IT READS IS OF BULK AT MOST 1048576: true; the input reads as it did. -/
def journalWrongUptoRow : OpenClaim := { program := "ytlplogplicgfiaa", sum := "80495bd0086c827a01f1ceac7b96f194abda049a598599fbec1858261e4203bb", func := "twistlock/twistlocklaw42.JournalWrong", spec := "journalWrong", unfollowed := true, recurses := true, apart := false, narrowed := true }
def JournalWrongUptoSaid : Prop := journalWrongUptoRow.holds Try.pinned (OpenSpec.upto journalWrongSpec)

end Rows
end Go.Proofs.Ytlplogplicgfiaa
