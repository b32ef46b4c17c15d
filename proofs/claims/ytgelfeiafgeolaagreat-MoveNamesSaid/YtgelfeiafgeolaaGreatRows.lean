/-
  No cell of these rows narrows 'for every input' (looked for: loops, veiled, ifaces, maps, wideKeys, modest, calm, conditions, laid).
  DERIVED. THE GIVEN ROWS OF THIS SEAT. 3 by the template 'for every input the law returns true; each argument reads behind the call as it read before'; 0 by the template 'total and deterministic' (their statements: YtgelfeiafgeolaaGreatTotals.lean).
  GIVEN WITH THE SEED: the statements are not yours to turn. If you find one false, say at which input.
  Laid BY PROGRAM, IN A SANDBOX (cutbox-rows.mjs): the forced cells as the released guide's own fill.sh prints them over the translation a073aa4e7bc9c4c7… (all of the seat's roots in one cut). By AI agents, Wed Nov 11 2026. No macro, syntax, notation, axiom, sorry.
-/
import Derived.Test.YtgelfeiafgeolaaGreatChecked
import GoSem.Claim
import GoSem.ClaimJoined
import GoSem.ClaimMapViews
import Derived.JoinedTies
import Derived.KernelRfl
namespace Go.Proofs.YtgelfeiafgeolaaGreat
/- THE CELL 'sum', in the pinned program and in every row, IS THE sha256 OF THE DUMP (.gsa) THAT YtgelfeiafgeolaaGreatProg.lean LOADS. Nothing in Lean hashes anything: it is a label: what it is worth is what the hold of that sum in a sandbox is worth. -/
noncomputable def Tryz.pinned : Pinned := { name := "ytgelfeiafgeolaagreat", sum := "a073aa4e7bc9c4c7b9245012c67fc8d01418c07baf0902aff64d3d54bbe2b025", checked := Tryz.checked }
namespace Rows
def none {H : Type} : Left H := { results := [], args := [] }

/-- 'freeboardlaw29.MendNames': WHATEVER THE INPUT: true; the input reads as it did. -/
def mendNamesSpec : ChangeSpec := { name := "mendNames", fn := fun _ => fun
  | [] => { results := [.lit (.bool true)], args := [] }
  | _ => none }
def mendNamesRow : OpenClaim := { program := "ytgelfeiafgeolaagreat", sum := "a073aa4e7bc9c4c7b9245012c67fc8d01418c07baf0902aff64d3d54bbe2b025", func := "freeboard/freeboardlaw29.MendNames", spec := "mendNames", unfollowed := true, recurses := true, apart := false }
def MendNamesSaid : Prop := mendNamesRow.holds Tryz.pinned (OpenSpec.ofChange mendNamesSpec)

/-- ITS FALSE NEIGHBOUR: 'it returns false'. Refute it at one input. -/
def mendNamesWrong : ChangeSpec := { name := "mendNames", fn := fun _ => fun
  | [] => { results := [.lit (.bool false)], args := [] }
  | _ => none }
def MendNamesWrongFalsely : Prop := mendNamesRow.holds Tryz.pinned (OpenSpec.ofChange mendNamesWrong)

/-- 'freeboardlaw28.WakeNames': WHATEVER THE INPUT: true; the input reads as it did. -/
def wakeNamesSpec : ChangeSpec := { name := "wakeNames", fn := fun _ => fun
  | [] => { results := [.lit (.bool true)], args := [] }
  | _ => none }
def wakeNamesRow : OpenClaim := { program := "ytgelfeiafgeolaagreat", sum := "a073aa4e7bc9c4c7b9245012c67fc8d01418c07baf0902aff64d3d54bbe2b025", func := "freeboard/freeboardlaw28.WakeNames", spec := "wakeNames", inPlace := ["slices.overlaps[int]", "slices.overlaps[[]byte]", "slices.overlaps[freeboard/api.Head]"], unfollowed := true, recurses := true, apart := false }
def WakeNamesSaid : Prop := wakeNamesRow.holds Tryz.pinned (OpenSpec.ofChange wakeNamesSpec)

/-- ITS FALSE NEIGHBOUR: 'it returns false'. Refute it at one input. -/
def wakeNamesWrong : ChangeSpec := { name := "wakeNames", fn := fun _ => fun
  | [] => { results := [.lit (.bool false)], args := [] }
  | _ => none }
def WakeNamesWrongFalsely : Prop := wakeNamesRow.holds Tryz.pinned (OpenSpec.ofChange wakeNamesWrong)

/-- 'freeboardlaw25.MoveNames': WHATEVER THE INPUT: true; the input reads as it did. -/
def moveNamesSpec : ChangeSpec := { name := "moveNames", fn := fun _ => fun
  | [] => { results := [.lit (.bool true)], args := [] }
  | _ => none }
def moveNamesRow : OpenClaim := { program := "ytgelfeiafgeolaagreat", sum := "a073aa4e7bc9c4c7b9245012c67fc8d01418c07baf0902aff64d3d54bbe2b025", func := "freeboard/freeboardlaw25.MoveNames", spec := "moveNames", inPlace := ["slices.overlaps[freeboard/api.Head]", "slices.overlaps[[]byte]"], unfollowed := true, recurses := true, apart := false }
def MoveNamesSaid : Prop := moveNamesRow.holds Tryz.pinned (OpenSpec.ofChange moveNamesSpec)

/-- ITS FALSE NEIGHBOUR: 'it returns false'. Refute it at one input. -/
def moveNamesWrong : ChangeSpec := { name := "moveNames", fn := fun _ => fun
  | [] => { results := [.lit (.bool false)], args := [] }
  | _ => none }
def MoveNamesWrongFalsely : Prop := moveNamesRow.holds Tryz.pinned (OpenSpec.ofChange moveNamesWrong)

/- THE SECOND FORM. 'bulk': how many values and letters a reading holds, each counted each time it is reached (what is shared counts as often as it is met; a slice's spare places count too). A statement '..UptoSaid' is the law's where the arguments, and the package variables that the reading takes, are together of bulk at most 1048576: NARROWER than '..Said'. Prove '..Said' where nothing that the law and all that it calls make is longer than what came in: it says more and counts as full. Else prove '..UptoSaid'. A law counts once. -/
mutual
def uptoBulk {H : Type} : DataW H → Nat
  | .lit (.string bytes) => bytes.length + 1
  | .lit _ => 1
  | .nil => 1
  | .ptr d => uptoBulk d + 1
  | .slice elems spare => uptoBulkAll elems + uptoBulkAll spare + 1
  | .agg parts => uptoBulkAll parts + 1
  | .iface _ d => uptoBulk d + 1
  | .map entries => uptoBulkEntries entries + 1
  | .held _ => 1
def uptoBulkAll {H : Type} : List (DataW H) → Nat
  | [] => 0
  | d :: r => uptoBulk d + uptoBulkAll r
def uptoBulkEntries {H : Type} : List (Lit × DataW H) → Nat
  | [] => 0
  | x :: r => uptoBulkEntry x + uptoBulkEntries r
def uptoBulkEntry {H : Type} : Lit × DataW H → Nat
  | (.string bytes, d) => bytes.length + uptoBulk d + 1
  | (_, d) => uptoBulk d + 1
 end
def uptoSmall : (H : Type) → List (DataW H) → Bool := fun _ ds => decide (uptoBulkAll ds ≤ 1048576)
def OpenSpec.upto (s : _root_.Go.ChangeSpec) : _root_.Go.OpenSpec := { _root_.Go.OpenSpec.ofChange s with cond := some uptoSmall }

/-- 'freeboardlaw29.MendNames', WHERE WHAT IT READS IS OF BULK AT MOST 1048576: true; the input reads as it did. -/
def mendNamesUptoRow : OpenClaim := { program := "ytgelfeiafgeolaagreat", sum := "a073aa4e7bc9c4c7b9245012c67fc8d01418c07baf0902aff64d3d54bbe2b025", func := "freeboard/freeboardlaw29.MendNames", spec := "mendNames", unfollowed := true, recurses := true, apart := false, narrowed := true }
def MendNamesUptoSaid : Prop := mendNamesUptoRow.holds Tryz.pinned (OpenSpec.upto mendNamesSpec)

/-- 'freeboardlaw28.WakeNames', WHERE WHAT IT READS IS OF BULK AT MOST 1048576: true; the input reads as it did. -/
def wakeNamesUptoRow : OpenClaim := { program := "ytgelfeiafgeolaagreat", sum := "a073aa4e7bc9c4c7b9245012c67fc8d01418c07baf0902aff64d3d54bbe2b025", func := "freeboard/freeboardlaw28.WakeNames", spec := "wakeNames", inPlace := ["slices.overlaps[int]", "slices.overlaps[[]byte]", "slices.overlaps[freeboard/api.Head]"], unfollowed := true, recurses := true, apart := false, narrowed := true }
def WakeNamesUptoSaid : Prop := wakeNamesUptoRow.holds Tryz.pinned (OpenSpec.upto wakeNamesSpec)

/-- 'freeboardlaw25.MoveNames', WHERE WHAT IT READS IS OF BULK AT MOST 1048576: true; the input reads as it did. -/
def moveNamesUptoRow : OpenClaim := { program := "ytgelfeiafgeolaagreat", sum := "a073aa4e7bc9c4c7b9245012c67fc8d01418c07baf0902aff64d3d54bbe2b025", func := "freeboard/freeboardlaw25.MoveNames", spec := "moveNames", inPlace := ["slices.overlaps[freeboard/api.Head]", "slices.overlaps[[]byte]"], unfollowed := true, recurses := true, apart := false, narrowed := true }
def MoveNamesUptoSaid : Prop := moveNamesUptoRow.holds Tryz.pinned (OpenSpec.upto moveNamesSpec)

end Rows
end Go.Proofs.YtgelfeiafgeolaaGreat
