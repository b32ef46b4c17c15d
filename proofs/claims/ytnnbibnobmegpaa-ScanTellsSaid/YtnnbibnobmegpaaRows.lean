/-
  No cell of these rows narrows 'for every input' (looked for: loops, veiled, ifaces, maps, wideKeys, modest, calm, conditions, laid).
  DERIVED. THE GIVEN ROWS OF THIS SEAT. 18 by the template 'for every input the law returns true; each argument reads behind the call as it read before'; 0 by the template 'total and deterministic' (their statements: YtnnbibnobmegpaaTotals.lean).
  GIVEN WITH THE SEED: the statements are not yours to turn. If you find one false, say at which input.
  Laid BY PROGRAM, IN A SANDBOX (cutbox-rows.mjs): the forced cells as the released guide's own fill.sh prints them over the translation ec54f531c8e2a846… (all of the seat's roots in one cut). By AI agents, Wed Nov 11 2026. No macro, syntax, notation, axiom, sorry.
-/
import Derived.Test.YtnnbibnobmegpaaChecked
import GoSem.Claim
import GoSem.ClaimJoined
import GoSem.ClaimMapViews
import Derived.JoinedTies
import Derived.KernelRfl
namespace Go.Proofs.Ytnnbibnobmegpaa
/- THE CELL 'sum', in the pinned program and in every row, IS THE sha256 OF THE DUMP (.gsa) THAT YtnnbibnobmegpaaProg.lean LOADS. Nothing in Lean hashes anything: it is a label: what it is worth is what the hold of that sum in a sandbox is worth. -/
noncomputable def Try.pinned : Pinned := { name := "ytnnbibnobmegpaa", sum := "ec54f531c8e2a8469a48cabff30cddc050045017d182c55751a6d7fcebc68c8d", checked := Try.checked }
namespace Rows
def none {H : Type} : Left H := { results := [], args := [] }

/-- 'freeboardlaw13.DealReads': WHATEVER THE INPUT: true; the input reads as it did. -/
def dealReadsSpec : ChangeSpec := { name := "dealReads", fn := fun _ => fun
  | [d1, d2, d3] => { results := [.lit (.bool true)], args := [d1, d2, d3] }
  | _ => none }
def dealReadsRow : OpenClaim := { program := "ytnnbibnobmegpaa", sum := "ec54f531c8e2a8469a48cabff30cddc050045017d182c55751a6d7fcebc68c8d", func := "freeboard/freeboardlaw13.DealReads", spec := "dealReads", unfollowed := true, recurses := true, apart := false }
def DealReadsSaid : Prop := dealReadsRow.holds Try.pinned (OpenSpec.ofChange dealReadsSpec)

/-- ITS FALSE NEIGHBOUR: 'it returns false'. Refute it at one input. -/
def dealReadsWrong : ChangeSpec := { name := "dealReads", fn := fun _ => fun
  | [d1, d2, d3] => { results := [.lit (.bool false)], args := [d1, d2, d3] }
  | _ => none }
def DealReadsWrongFalsely : Prop := dealReadsRow.holds Try.pinned (OpenSpec.ofChange dealReadsWrong)

/-- 'freeboardlaw15.ScanTells': WHATEVER THE INPUT: true; the input reads as it did. -/
def scanTellsSpec : ChangeSpec := { name := "scanTells", fn := fun _ => fun
  | [d1, d2] => { results := [.lit (.bool true)], args := [d1, d2] }
  | _ => none }
def scanTellsRow : OpenClaim := { program := "ytnnbibnobmegpaa", sum := "ec54f531c8e2a8469a48cabff30cddc050045017d182c55751a6d7fcebc68c8d", func := "freeboard/freeboardlaw15.ScanTells", spec := "scanTells", unfollowed := true, recurses := true, apart := false }
def ScanTellsSaid : Prop := scanTellsRow.holds Try.pinned (OpenSpec.ofChange scanTellsSpec)

/-- ITS FALSE NEIGHBOUR: 'it returns false'. Refute it at one input. -/
def scanTellsWrong : ChangeSpec := { name := "scanTells", fn := fun _ => fun
  | [d1, d2] => { results := [.lit (.bool false)], args := [d1, d2] }
  | _ => none }
def ScanTellsWrongFalsely : Prop := scanTellsRow.holds Try.pinned (OpenSpec.ofChange scanTellsWrong)

/-- 'freeboardlaw14.LogRoom': WHATEVER THE INPUT: true; the input reads as it did. -/
def logRoomSpec : ChangeSpec := { name := "logRoom", fn := fun _ => fun
  | [d1, d2, d3] => { results := [.lit (.bool true)], args := [d1, d2, d3] }
  | _ => none }
def logRoomRow : OpenClaim := { program := "ytnnbibnobmegpaa", sum := "ec54f531c8e2a8469a48cabff30cddc050045017d182c55751a6d7fcebc68c8d", func := "freeboard/freeboardlaw14.LogRoom", spec := "logRoom", inPlace := ["slices.overlaps[[]byte]"], unfollowed := true, recurses := true, apart := false }
def LogRoomSaid : Prop := logRoomRow.holds Try.pinned (OpenSpec.ofChange logRoomSpec)

/-- ITS FALSE NEIGHBOUR: 'it returns false'. Refute it at one input. -/
def logRoomWrong : ChangeSpec := { name := "logRoom", fn := fun _ => fun
  | [d1, d2, d3] => { results := [.lit (.bool false)], args := [d1, d2, d3] }
  | _ => none }
def LogRoomWrongFalsely : Prop := logRoomRow.holds Try.pinned (OpenSpec.ofChange logRoomWrong)

/-- 'freeboardlaw14.LogPlaces': WHATEVER THE INPUT: true; the input reads as it did. -/
def logPlacesSpec : ChangeSpec := { name := "logPlaces", fn := fun _ => fun
  | [d1, d2, d3] => { results := [.lit (.bool true)], args := [d1, d2, d3] }
  | _ => none }
def logPlacesRow : OpenClaim := { program := "ytnnbibnobmegpaa", sum := "ec54f531c8e2a8469a48cabff30cddc050045017d182c55751a6d7fcebc68c8d", func := "freeboard/freeboardlaw14.LogPlaces", spec := "logPlaces", inPlace := ["slices.overlaps[[]byte]"], unfollowed := true, recurses := true, apart := false }
def LogPlacesSaid : Prop := logPlacesRow.holds Try.pinned (OpenSpec.ofChange logPlacesSpec)

/-- ITS FALSE NEIGHBOUR: 'it returns false'. Refute it at one input. -/
def logPlacesWrong : ChangeSpec := { name := "logPlaces", fn := fun _ => fun
  | [d1, d2, d3] => { results := [.lit (.bool false)], args := [d1, d2, d3] }
  | _ => none }
def LogPlacesWrongFalsely : Prop := logPlacesRow.holds Try.pinned (OpenSpec.ofChange logPlacesWrong)

/-- 'freeboardlaw14.LogHomes': WHATEVER THE INPUT: true; the input reads as it did. -/
def logHomesSpec : ChangeSpec := { name := "logHomes", fn := fun _ => fun
  | [d1, d2, d3] => { results := [.lit (.bool true)], args := [d1, d2, d3] }
  | _ => none }
def logHomesRow : OpenClaim := { program := "ytnnbibnobmegpaa", sum := "ec54f531c8e2a8469a48cabff30cddc050045017d182c55751a6d7fcebc68c8d", func := "freeboard/freeboardlaw14.LogHomes", spec := "logHomes", inPlace := ["slices.overlaps[[]byte]"], unfollowed := true, recurses := true, apart := false }
def LogHomesSaid : Prop := logHomesRow.holds Try.pinned (OpenSpec.ofChange logHomesSpec)

/-- ITS FALSE NEIGHBOUR: 'it returns false'. Refute it at one input. -/
def logHomesWrong : ChangeSpec := { name := "logHomes", fn := fun _ => fun
  | [d1, d2, d3] => { results := [.lit (.bool false)], args := [d1, d2, d3] }
  | _ => none }
def LogHomesWrongFalsely : Prop := logHomesRow.holds Try.pinned (OpenSpec.ofChange logHomesWrong)

/-- 'freeboardlaw14.LogMoves': WHATEVER THE INPUT: true; the input reads as it did. -/
def logMovesSpec : ChangeSpec := { name := "logMoves", fn := fun _ => fun
  | [d1, d2] => { results := [.lit (.bool true)], args := [d1, d2] }
  | _ => none }
def logMovesRow : OpenClaim := { program := "ytnnbibnobmegpaa", sum := "ec54f531c8e2a8469a48cabff30cddc050045017d182c55751a6d7fcebc68c8d", func := "freeboard/freeboardlaw14.LogMoves", spec := "logMoves", inPlace := ["slices.overlaps[[]byte]"], unfollowed := true, recurses := true, apart := false }
def LogMovesSaid : Prop := logMovesRow.holds Try.pinned (OpenSpec.ofChange logMovesSpec)

/-- ITS FALSE NEIGHBOUR: 'it returns false'. Refute it at one input. -/
def logMovesWrong : ChangeSpec := { name := "logMoves", fn := fun _ => fun
  | [d1, d2] => { results := [.lit (.bool false)], args := [d1, d2] }
  | _ => none }
def LogMovesWrongFalsely : Prop := logMovesRow.holds Try.pinned (OpenSpec.ofChange logMovesWrong)

/-- 'freeboardlaw14.LogNames': WHATEVER THE INPUT: true; the input reads as it did. -/
def logNamesSpec : ChangeSpec := { name := "logNames", fn := fun _ => fun
  | [] => { results := [.lit (.bool true)], args := [] }
  | _ => none }
def logNamesRow : OpenClaim := { program := "ytnnbibnobmegpaa", sum := "ec54f531c8e2a8469a48cabff30cddc050045017d182c55751a6d7fcebc68c8d", func := "freeboard/freeboardlaw14.LogNames", spec := "logNames", inPlace := ["slices.overlaps[[]byte]"], unfollowed := true, recurses := true, apart := false }
def LogNamesSaid : Prop := logNamesRow.holds Try.pinned (OpenSpec.ofChange logNamesSpec)

/-- ITS FALSE NEIGHBOUR: 'it returns false'. Refute it at one input. -/
def logNamesWrong : ChangeSpec := { name := "logNames", fn := fun _ => fun
  | [] => { results := [.lit (.bool false)], args := [] }
  | _ => none }
def LogNamesWrongFalsely : Prop := logNamesRow.holds Try.pinned (OpenSpec.ofChange logNamesWrong)

/-- 'freeboardlaw14.LogSteps': WHATEVER THE INPUT: true; the input reads as it did. -/
def logStepsSpec : ChangeSpec := { name := "logSteps", fn := fun _ => fun
  | [d1, d2, d3] => { results := [.lit (.bool true)], args := [d1, d2, d3] }
  | _ => none }
def logStepsRow : OpenClaim := { program := "ytnnbibnobmegpaa", sum := "ec54f531c8e2a8469a48cabff30cddc050045017d182c55751a6d7fcebc68c8d", func := "freeboard/freeboardlaw14.LogSteps", spec := "logSteps", inPlace := ["slices.overlaps[[]byte]"], unfollowed := true, recurses := true, apart := false }
def LogStepsSaid : Prop := logStepsRow.holds Try.pinned (OpenSpec.ofChange logStepsSpec)

/-- ITS FALSE NEIGHBOUR: 'it returns false'. Refute it at one input. -/
def logStepsWrong : ChangeSpec := { name := "logSteps", fn := fun _ => fun
  | [d1, d2, d3] => { results := [.lit (.bool false)], args := [d1, d2, d3] }
  | _ => none }
def LogStepsWrongFalsely : Prop := logStepsRow.holds Try.pinned (OpenSpec.ofChange logStepsWrong)

/-- 'freeboardlaw13.DealShort': WHATEVER THE INPUT: true; the input reads as it did. -/
def dealShortSpec : ChangeSpec := { name := "dealShort", fn := fun _ => fun
  | [d1, d2, d3, d4, d5, d6, d7] => { results := [.lit (.bool true)], args := [d1, d2, d3, d4, d5, d6, d7] }
  | _ => none }
def dealShortRow : OpenClaim := { program := "ytnnbibnobmegpaa", sum := "ec54f531c8e2a8469a48cabff30cddc050045017d182c55751a6d7fcebc68c8d", func := "freeboard/freeboardlaw13.DealShort", spec := "dealShort", inPlace := ["slices.overlaps[[]byte]"], unfollowed := true, recurses := true, apart := false }
def DealShortSaid : Prop := dealShortRow.holds Try.pinned (OpenSpec.ofChange dealShortSpec)

/-- ITS FALSE NEIGHBOUR: 'it returns false'. Refute it at one input. -/
def dealShortWrong : ChangeSpec := { name := "dealShort", fn := fun _ => fun
  | [d1, d2, d3, d4, d5, d6, d7] => { results := [.lit (.bool false)], args := [d1, d2, d3, d4, d5, d6, d7] }
  | _ => none }
def DealShortWrongFalsely : Prop := dealShortRow.holds Try.pinned (OpenSpec.ofChange dealShortWrong)

/-- 'freeboardlaw13.DealOnly': WHATEVER THE INPUT: true; the input reads as it did. -/
def dealOnlySpec : ChangeSpec := { name := "dealOnly", fn := fun _ => fun
  | [d1, d2, d3] => { results := [.lit (.bool true)], args := [d1, d2, d3] }
  | _ => none }
def dealOnlyRow : OpenClaim := { program := "ytnnbibnobmegpaa", sum := "ec54f531c8e2a8469a48cabff30cddc050045017d182c55751a6d7fcebc68c8d", func := "freeboard/freeboardlaw13.DealOnly", spec := "dealOnly", inPlace := ["slices.overlaps[[]byte]"], unfollowed := true, recurses := true, apart := false }
def DealOnlySaid : Prop := dealOnlyRow.holds Try.pinned (OpenSpec.ofChange dealOnlySpec)

/-- ITS FALSE NEIGHBOUR: 'it returns false'. Refute it at one input. -/
def dealOnlyWrong : ChangeSpec := { name := "dealOnly", fn := fun _ => fun
  | [d1, d2, d3] => { results := [.lit (.bool false)], args := [d1, d2, d3] }
  | _ => none }
def DealOnlyWrongFalsely : Prop := dealOnlyRow.holds Try.pinned (OpenSpec.ofChange dealOnlyWrong)

/-- 'freeboardlaw13.DealMarks': WHATEVER THE INPUT: true; the input reads as it did. -/
def dealMarksSpec : ChangeSpec := { name := "dealMarks", fn := fun _ => fun
  | [d1, d2, d3, d4] => { results := [.lit (.bool true)], args := [d1, d2, d3, d4] }
  | _ => none }
def dealMarksRow : OpenClaim := { program := "ytnnbibnobmegpaa", sum := "ec54f531c8e2a8469a48cabff30cddc050045017d182c55751a6d7fcebc68c8d", func := "freeboard/freeboardlaw13.DealMarks", spec := "dealMarks", inPlace := ["slices.overlaps[[]byte]"], unfollowed := true, recurses := true, apart := false }
def DealMarksSaid : Prop := dealMarksRow.holds Try.pinned (OpenSpec.ofChange dealMarksSpec)

/-- ITS FALSE NEIGHBOUR: 'it returns false'. Refute it at one input. -/
def dealMarksWrong : ChangeSpec := { name := "dealMarks", fn := fun _ => fun
  | [d1, d2, d3, d4] => { results := [.lit (.bool false)], args := [d1, d2, d3, d4] }
  | _ => none }
def DealMarksWrongFalsely : Prop := dealMarksRow.holds Try.pinned (OpenSpec.ofChange dealMarksWrong)

/-- 'freeboardlaw13.DealBack': WHATEVER THE INPUT: true; the input reads as it did. -/
def dealBackSpec : ChangeSpec := { name := "dealBack", fn := fun _ => fun
  | [d1, d2, d3, d4, d5, d6] => { results := [.lit (.bool true)], args := [d1, d2, d3, d4, d5, d6] }
  | _ => none }
def dealBackRow : OpenClaim := { program := "ytnnbibnobmegpaa", sum := "ec54f531c8e2a8469a48cabff30cddc050045017d182c55751a6d7fcebc68c8d", func := "freeboard/freeboardlaw13.DealBack", spec := "dealBack", inPlace := ["slices.overlaps[[]byte]"], unfollowed := true, recurses := true, apart := false }
def DealBackSaid : Prop := dealBackRow.holds Try.pinned (OpenSpec.ofChange dealBackSpec)

/-- ITS FALSE NEIGHBOUR: 'it returns false'. Refute it at one input. -/
def dealBackWrong : ChangeSpec := { name := "dealBack", fn := fun _ => fun
  | [d1, d2, d3, d4, d5, d6] => { results := [.lit (.bool false)], args := [d1, d2, d3, d4, d5, d6] }
  | _ => none }
def DealBackWrongFalsely : Prop := dealBackRow.holds Try.pinned (OpenSpec.ofChange dealBackWrong)

/-- 'freeboardlaw13.DealNames': WHATEVER THE INPUT: true; the input reads as it did. -/
def dealNamesSpec : ChangeSpec := { name := "dealNames", fn := fun _ => fun
  | [] => { results := [.lit (.bool true)], args := [] }
  | _ => none }
def dealNamesRow : OpenClaim := { program := "ytnnbibnobmegpaa", sum := "ec54f531c8e2a8469a48cabff30cddc050045017d182c55751a6d7fcebc68c8d", func := "freeboard/freeboardlaw13.DealNames", spec := "dealNames", inPlace := ["slices.overlaps[[]byte]"], unfollowed := true, recurses := true, apart := false }
def DealNamesSaid : Prop := dealNamesRow.holds Try.pinned (OpenSpec.ofChange dealNamesSpec)

/-- ITS FALSE NEIGHBOUR: 'it returns false'. Refute it at one input. -/
def dealNamesWrong : ChangeSpec := { name := "dealNames", fn := fun _ => fun
  | [] => { results := [.lit (.bool false)], args := [] }
  | _ => none }
def DealNamesWrongFalsely : Prop := dealNamesRow.holds Try.pinned (OpenSpec.ofChange dealNamesWrong)

/-- 'freeboardlaw13.DealOthers': WHATEVER THE INPUT: true; the input reads as it did. -/
def dealOthersSpec : ChangeSpec := { name := "dealOthers", fn := fun _ => fun
  | [d1, d2, d3, d4, d5, d6, d7] => { results := [.lit (.bool true)], args := [d1, d2, d3, d4, d5, d6, d7] }
  | _ => none }
def dealOthersRow : OpenClaim := { program := "ytnnbibnobmegpaa", sum := "ec54f531c8e2a8469a48cabff30cddc050045017d182c55751a6d7fcebc68c8d", func := "freeboard/freeboardlaw13.DealOthers", spec := "dealOthers", inPlace := ["slices.overlaps[[]byte]"], unfollowed := true, recurses := true, apart := false }
def DealOthersSaid : Prop := dealOthersRow.holds Try.pinned (OpenSpec.ofChange dealOthersSpec)

/-- ITS FALSE NEIGHBOUR: 'it returns false'. Refute it at one input. -/
def dealOthersWrong : ChangeSpec := { name := "dealOthers", fn := fun _ => fun
  | [d1, d2, d3, d4, d5, d6, d7] => { results := [.lit (.bool false)], args := [d1, d2, d3, d4, d5, d6, d7] }
  | _ => none }
def DealOthersWrongFalsely : Prop := dealOthersRow.holds Try.pinned (OpenSpec.ofChange dealOthersWrong)

/-- 'freeboardlaw15.ScanOlder': WHATEVER THE INPUT: true; the input reads as it did. -/
def scanOlderSpec : ChangeSpec := { name := "scanOlder", fn := fun _ => fun
  | [d1, d2] => { results := [.lit (.bool true)], args := [d1, d2] }
  | _ => none }
def scanOlderRow : OpenClaim := { program := "ytnnbibnobmegpaa", sum := "ec54f531c8e2a8469a48cabff30cddc050045017d182c55751a6d7fcebc68c8d", func := "freeboard/freeboardlaw15.ScanOlder", spec := "scanOlder", inPlace := ["slices.overlaps[[]byte]"], unfollowed := true, recurses := true, apart := false }
def ScanOlderSaid : Prop := scanOlderRow.holds Try.pinned (OpenSpec.ofChange scanOlderSpec)

/-- ITS FALSE NEIGHBOUR: 'it returns false'. Refute it at one input. -/
def scanOlderWrong : ChangeSpec := { name := "scanOlder", fn := fun _ => fun
  | [d1, d2] => { results := [.lit (.bool false)], args := [d1, d2] }
  | _ => none }
def ScanOlderWrongFalsely : Prop := scanOlderRow.holds Try.pinned (OpenSpec.ofChange scanOlderWrong)

/-- 'freeboardlaw15.ScanEnds': WHATEVER THE INPUT: true; the input reads as it did. -/
def scanEndsSpec : ChangeSpec := { name := "scanEnds", fn := fun _ => fun
  | [d1, d2] => { results := [.lit (.bool true)], args := [d1, d2] }
  | _ => none }
def scanEndsRow : OpenClaim := { program := "ytnnbibnobmegpaa", sum := "ec54f531c8e2a8469a48cabff30cddc050045017d182c55751a6d7fcebc68c8d", func := "freeboard/freeboardlaw15.ScanEnds", spec := "scanEnds", inPlace := ["slices.overlaps[[]byte]"], unfollowed := true, recurses := true, apart := false }
def ScanEndsSaid : Prop := scanEndsRow.holds Try.pinned (OpenSpec.ofChange scanEndsSpec)

/-- ITS FALSE NEIGHBOUR: 'it returns false'. Refute it at one input. -/
def scanEndsWrong : ChangeSpec := { name := "scanEnds", fn := fun _ => fun
  | [d1, d2] => { results := [.lit (.bool false)], args := [d1, d2] }
  | _ => none }
def ScanEndsWrongFalsely : Prop := scanEndsRow.holds Try.pinned (OpenSpec.ofChange scanEndsWrong)

/-- 'freeboardlaw15.ScanNames': WHATEVER THE INPUT: true; the input reads as it did. -/
def scanNamesSpec : ChangeSpec := { name := "scanNames", fn := fun _ => fun
  | [] => { results := [.lit (.bool true)], args := [] }
  | _ => none }
def scanNamesRow : OpenClaim := { program := "ytnnbibnobmegpaa", sum := "ec54f531c8e2a8469a48cabff30cddc050045017d182c55751a6d7fcebc68c8d", func := "freeboard/freeboardlaw15.ScanNames", spec := "scanNames", inPlace := ["slices.overlaps[[]byte]"], unfollowed := true, recurses := true, apart := false }
def ScanNamesSaid : Prop := scanNamesRow.holds Try.pinned (OpenSpec.ofChange scanNamesSpec)

/-- ITS FALSE NEIGHBOUR: 'it returns false'. Refute it at one input. -/
def scanNamesWrong : ChangeSpec := { name := "scanNames", fn := fun _ => fun
  | [] => { results := [.lit (.bool false)], args := [] }
  | _ => none }
def ScanNamesWrongFalsely : Prop := scanNamesRow.holds Try.pinned (OpenSpec.ofChange scanNamesWrong)

/-- 'freeboardlaw15.ScanFlushed': WHATEVER THE INPUT: true; the input reads as it did. -/
def scanFlushedSpec : ChangeSpec := { name := "scanFlushed", fn := fun _ => fun
  | [d1, d2] => { results := [.lit (.bool true)], args := [d1, d2] }
  | _ => none }
def scanFlushedRow : OpenClaim := { program := "ytnnbibnobmegpaa", sum := "ec54f531c8e2a8469a48cabff30cddc050045017d182c55751a6d7fcebc68c8d", func := "freeboard/freeboardlaw15.ScanFlushed", spec := "scanFlushed", inPlace := ["slices.overlaps[[]byte]"], unfollowed := true, recurses := true, apart := false }
def ScanFlushedSaid : Prop := scanFlushedRow.holds Try.pinned (OpenSpec.ofChange scanFlushedSpec)

/-- ITS FALSE NEIGHBOUR: 'it returns false'. Refute it at one input. -/
def scanFlushedWrong : ChangeSpec := { name := "scanFlushed", fn := fun _ => fun
  | [d1, d2] => { results := [.lit (.bool false)], args := [d1, d2] }
  | _ => none }
def ScanFlushedWrongFalsely : Prop := scanFlushedRow.holds Try.pinned (OpenSpec.ofChange scanFlushedWrong)

/- THE SECOND FORM. 'bulk': how many values and letters a reading holds, each counted each time it is reached (what is shared counts as often as it is met; a slice's spare places count too). A statement '..UptoSaid' is the law's where the arguments, and the package variables that the reading takes, are together of bulk at most 1048576: NARROWER than '..Said'. Prove '..Said' where nothing that the law and all that it calls make is longer than what came in: it says more and counts as full. Else prove '..UptoSaid'. A law counts once. -/
mutual
def uptoBulk {H : Type} : DataW H → Nat
  | .lit (.string bytes) => bytes.length + 1
  | .lit _ => 1
  | .nil => 1
  | .ptr d => uptoBulk d + 1
  | .slice elems spare => uptoBulkAll elems + uptoBulkAll spare + 1
  | .agg parts => uptoBulkAll parts + 1
  | .iface _ d => uptoBulk d + 1
  | .map entries => uptoBulkEntries entries + 1
  | .held _ => 1
def uptoBulkAll {H : Type} : List (DataW H) → Nat
  | [] => 0
  | d :: r => uptoBulk d + uptoBulkAll r
def uptoBulkEntries {H : Type} : List (Lit × DataW H) → Nat
  | [] => 0
  | x :: r => uptoBulkEntry x + uptoBulkEntries r
def uptoBulkEntry {H : Type} : Lit × DataW H → Nat
  | (.string bytes, d) => bytes.length + uptoBulk d + 1
  | (_, d) => uptoBulk d + 1
 end
def uptoSmall : (H : Type) → List (DataW H) → Bool := fun _ ds => decide (uptoBulkAll ds ≤ 1048576)
def OpenSpec.upto (s : _root_.Go.ChangeSpec) : _root_.Go.OpenSpec := { _root_.Go.OpenSpec.ofChange s with cond := some uptoSmall }

/-- 'freeboardlaw13.DealReads', WHERE WHAT IT READS IS OF BULK AT MOST 1048576: true; the input reads as it did. -/
def dealReadsUptoRow : OpenClaim := { program := "ytnnbibnobmegpaa", sum := "ec54f531c8e2a8469a48cabff30cddc050045017d182c55751a6d7fcebc68c8d", func := "freeboard/freeboardlaw13.DealReads", spec := "dealReads", unfollowed := true, recurses := true, apart := false, narrowed := true }
def DealReadsUptoSaid : Prop := dealReadsUptoRow.holds Try.pinned (OpenSpec.upto dealReadsSpec)

/-- 'freeboardlaw15.ScanTells', WHERE WHAT IT READS IS OF BULK AT MOST 1048576: true; the input reads as it did. -/
def scanTellsUptoRow : OpenClaim := { program := "ytnnbibnobmegpaa", sum := "ec54f531c8e2a8469a48cabff30cddc050045017d182c55751a6d7fcebc68c8d", func := "freeboard/freeboardlaw15.ScanTells", spec := "scanTells", unfollowed := true, recurses := true, apart := false, narrowed := true }
def ScanTellsUptoSaid : Prop := scanTellsUptoRow.holds Try.pinned (OpenSpec.upto scanTellsSpec)

/-- 'freeboardlaw14.LogRoom', WHERE WHAT IT READS IS OF BULK AT MOST 1048576: true; the input reads as it did. -/
def logRoomUptoRow : OpenClaim := { program := "ytnnbibnobmegpaa", sum := "ec54f531c8e2a8469a48cabff30cddc050045017d182c55751a6d7fcebc68c8d", func := "freeboard/freeboardlaw14.LogRoom", spec := "logRoom", inPlace := ["slices.overlaps[[]byte]"], unfollowed := true, recurses := true, apart := false, narrowed := true }
def LogRoomUptoSaid : Prop := logRoomUptoRow.holds Try.pinned (OpenSpec.upto logRoomSpec)

/-- 'freeboardlaw14.LogPlaces', WHERE WHAT IT READS IS OF BULK AT MOST 1048576: true; the input reads as it did. -/
def logPlacesUptoRow : OpenClaim := { program := "ytnnbibnobmegpaa", sum := "ec54f531c8e2a8469a48cabff30cddc050045017d182c55751a6d7fcebc68c8d", func := "freeboard/freeboardlaw14.LogPlaces", spec := "logPlaces", inPlace := ["slices.overlaps[[]byte]"], unfollowed := true, recurses := true, apart := false, narrowed := true }
def LogPlacesUptoSaid : Prop := logPlacesUptoRow.holds Try.pinned (OpenSpec.upto logPlacesSpec)

/-- 'freeboardlaw14.LogHomes', WHERE WHAT IT READS IS OF BULK AT MOST 1048576: true; the input reads as it did. -/
def logHomesUptoRow : OpenClaim := { program := "ytnnbibnobmegpaa", sum := "ec54f531c8e2a8469a48cabff30cddc050045017d182c55751a6d7fcebc68c8d", func := "freeboard/freeboardlaw14.LogHomes", spec := "logHomes", inPlace := ["slices.overlaps[[]byte]"], unfollowed := true, recurses := true, apart := false, narrowed := true }
def LogHomesUptoSaid : Prop := logHomesUptoRow.holds Try.pinned (OpenSpec.upto logHomesSpec)

/-- 'freeboardlaw14.LogMoves', WHERE WHAT IT READS IS OF BULK AT MOST 1048576: true; the input reads as it did. -/
def logMovesUptoRow : OpenClaim := { program := "ytnnbibnobmegpaa", sum := "ec54f531c8e2a8469a48cabff30cddc050045017d182c55751a6d7fcebc68c8d", func := "freeboard/freeboardlaw14.LogMoves", spec := "logMoves", inPlace := ["slices.overlaps[[]byte]"], unfollowed := true, recurses := true, apart := false, narrowed := true }
def LogMovesUptoSaid : Prop := logMovesUptoRow.holds Try.pinned (OpenSpec.upto logMovesSpec)

/-- 'freeboardlaw14.LogNames', WHERE WHAT IT READS IS OF BULK AT MOST 1048576: true; the input reads as it did. -/
def logNamesUptoRow : OpenClaim := { program := "ytnnbibnobmegpaa", sum := "ec54f531c8e2a8469a48cabff30cddc050045017d182c55751a6d7fcebc68c8d", func := "freeboard/freeboardlaw14.LogNames", spec := "logNames", inPlace := ["slices.overlaps[[]byte]"], unfollowed := true, recurses := true, apart := false, narrowed := true }
def LogNamesUptoSaid : Prop := logNamesUptoRow.holds Try.pinned (OpenSpec.upto logNamesSpec)

/-- 'freeboardlaw14.LogSteps', WHERE WHAT IT READS IS OF BULK AT MOST 1048576: true; the input reads as it did. -/
def logStepsUptoRow : OpenClaim := { program := "ytnnbibnobmegpaa", sum := "ec54f531c8e2a8469a48cabff30cddc050045017d182c55751a6d7fcebc68c8d", func := "freeboard/freeboardlaw14.LogSteps", spec := "logSteps", inPlace := ["slices.overlaps[[]byte]"], unfollowed := true, recurses := true, apart := false, narrowed := true }
def LogStepsUptoSaid : Prop := logStepsUptoRow.holds Try.pinned (OpenSpec.upto logStepsSpec)

/-- 'freeboardlaw13.DealShort', WHERE WHAT IT READS IS OF BULK AT MOST 1048576: true; the input reads as it did. -/
def dealShortUptoRow : OpenClaim := { program := "ytnnbibnobmegpaa", sum := "ec54f531c8e2a8469a48cabff30cddc050045017d182c55751a6d7fcebc68c8d", func := "freeboard/freeboardlaw13.DealShort", spec := "dealShort", inPlace := ["slices.overlaps[[]byte]"], unfollowed := true, recurses := true, apart := false, narrowed := true }
def DealShortUptoSaid : Prop := dealShortUptoRow.holds Try.pinned (OpenSpec.upto dealShortSpec)

/-- 'freeboardlaw13.DealOnly', WHERE WHAT IT READS IS OF BULK AT MOST 1048576: true; the input reads as it did. -/
def dealOnlyUptoRow : OpenClaim := { program := "ytnnbibnobmegpaa", sum := "ec54f531c8e2a8469a48cabff30cddc050045017d182c55751a6d7fcebc68c8d", func := "freeboard/freeboardlaw13.DealOnly", spec := "dealOnly", inPlace := ["slices.overlaps[[]byte]"], unfollowed := true, recurses := true, apart := false, narrowed := true }
def DealOnlyUptoSaid : Prop := dealOnlyUptoRow.holds Try.pinned (OpenSpec.upto dealOnlySpec)

/-- 'freeboardlaw13.DealMarks', WHERE WHAT IT READS IS OF BULK AT MOST 1048576: true; the input reads as it did. -/
def dealMarksUptoRow : OpenClaim := { program := "ytnnbibnobmegpaa", sum := "ec54f531c8e2a8469a48cabff30cddc050045017d182c55751a6d7fcebc68c8d", func := "freeboard/freeboardlaw13.DealMarks", spec := "dealMarks", inPlace := ["slices.overlaps[[]byte]"], unfollowed := true, recurses := true, apart := false, narrowed := true }
def DealMarksUptoSaid : Prop := dealMarksUptoRow.holds Try.pinned (OpenSpec.upto dealMarksSpec)

/-- 'freeboardlaw13.DealBack', WHERE WHAT IT READS IS OF BULK AT MOST 1048576: true; the input reads as it did. -/
def dealBackUptoRow : OpenClaim := { program := "ytnnbibnobmegpaa", sum := "ec54f531c8e2a8469a48cabff30cddc050045017d182c55751a6d7fcebc68c8d", func := "freeboard/freeboardlaw13.DealBack", spec := "dealBack", inPlace := ["slices.overlaps[[]byte]"], unfollowed := true, recurses := true, apart := false, narrowed := true }
def DealBackUptoSaid : Prop := dealBackUptoRow.holds Try.pinned (OpenSpec.upto dealBackSpec)

/-- 'freeboardlaw13.DealNames', WHERE WHAT IT READS IS OF BULK AT MOST 1048576: true; the input reads as it did. -/
def dealNamesUptoRow : OpenClaim := { program := "ytnnbibnobmegpaa", sum := "ec54f531c8e2a8469a48cabff30cddc050045017d182c55751a6d7fcebc68c8d", func := "freeboard/freeboardlaw13.DealNames", spec := "dealNames", inPlace := ["slices.overlaps[[]byte]"], unfollowed := true, recurses := true, apart := false, narrowed := true }
def DealNamesUptoSaid : Prop := dealNamesUptoRow.holds Try.pinned (OpenSpec.upto dealNamesSpec)

/-- 'freeboardlaw13.DealOthers', WHERE WHAT IT READS IS OF BULK AT MOST 1048576: true; the input reads as it did. -/
def dealOthersUptoRow : OpenClaim := { program := "ytnnbibnobmegpaa", sum := "ec54f531c8e2a8469a48cabff30cddc050045017d182c55751a6d7fcebc68c8d", func := "freeboard/freeboardlaw13.DealOthers", spec := "dealOthers", inPlace := ["slices.overlaps[[]byte]"], unfollowed := true, recurses := true, apart := false, narrowed := true }
def DealOthersUptoSaid : Prop := dealOthersUptoRow.holds Try.pinned (OpenSpec.upto dealOthersSpec)

/-- 'freeboardlaw15.ScanOlder', WHERE WHAT IT READS IS OF BULK AT MOST 1048576: true; the input reads as it did. -/
def scanOlderUptoRow : OpenClaim := { program := "ytnnbibnobmegpaa", sum := "ec54f531c8e2a8469a48cabff30cddc050045017d182c55751a6d7fcebc68c8d", func := "freeboard/freeboardlaw15.ScanOlder", spec := "scanOlder", inPlace := ["slices.overlaps[[]byte]"], unfollowed := true, recurses := true, apart := false, narrowed := true }
def ScanOlderUptoSaid : Prop := scanOlderUptoRow.holds Try.pinned (OpenSpec.upto scanOlderSpec)

/-- 'freeboardlaw15.ScanEnds', WHERE WHAT IT READS IS OF BULK AT MOST 1048576: true; the input reads as it did. -/
def scanEndsUptoRow : OpenClaim := { program := "ytnnbibnobmegpaa", sum := "ec54f531c8e2a8469a48cabff30cddc050045017d182c55751a6d7fcebc68c8d", func := "freeboard/freeboardlaw15.ScanEnds", spec := "scanEnds", inPlace := ["slices.overlaps[[]byte]"], unfollowed := true, recurses := true, apart := false, narrowed := true }
def ScanEndsUptoSaid : Prop := scanEndsUptoRow.holds Try.pinned (OpenSpec.upto scanEndsSpec)

/-- 'freeboardlaw15.ScanNames', WHERE WHAT IT READS IS OF BULK AT MOST 1048576: true; the input reads as it did. -/
def scanNamesUptoRow : OpenClaim := { program := "ytnnbibnobmegpaa", sum := "ec54f531c8e2a8469a48cabff30cddc050045017d182c55751a6d7fcebc68c8d", func := "freeboard/freeboardlaw15.ScanNames", spec := "scanNames", inPlace := ["slices.overlaps[[]byte]"], unfollowed := true, recurses := true, apart := false, narrowed := true }
def ScanNamesUptoSaid : Prop := scanNamesUptoRow.holds Try.pinned (OpenSpec.upto scanNamesSpec)

/-- 'freeboardlaw15.ScanFlushed', WHERE WHAT IT READS IS OF BULK AT MOST 1048576: true; the input reads as it did. -/
def scanFlushedUptoRow : OpenClaim := { program := "ytnnbibnobmegpaa", sum := "ec54f531c8e2a8469a48cabff30cddc050045017d182c55751a6d7fcebc68c8d", func := "freeboard/freeboardlaw15.ScanFlushed", spec := "scanFlushed", inPlace := ["slices.overlaps[[]byte]"], unfollowed := true, recurses := true, apart := false, narrowed := true }
def ScanFlushedUptoSaid : Prop := scanFlushedUptoRow.holds Try.pinned (OpenSpec.upto scanFlushedSpec)

end Rows
end Go.Proofs.Ytnnbibnobmegpaa
