/-
  No cell of these rows narrows 'for every input' (looked for: loops, veiled, ifaces, maps, wideKeys, modest, calm, conditions, laid).
  DERIVED. THE GIVEN ROWS OF THIS SEAT. 5 by the template 'for every input the law returns true; each argument reads behind the call as it read before'; 0 by the template 'total and deterministic' (their statements: YtblggmblcjoalaaGreatTotals.lean).
  GIVEN WITH THE SEED: the statements are not yours to turn. If you find one false, say at which input.
  Laid BY PROGRAM, IN A SANDBOX (cutbox-rows.mjs): the forced cells as the released guide's own fill.sh prints them over the translation ef5d671b48e6ef63… (all of the seat's roots in one cut). By AI agents, Wed Nov 11 2026. No macro, syntax, notation, axiom, sorry.
-/
import Derived.Test.YtblggmblcjoalaaGreatChecked
import GoSem.Claim
import GoSem.ClaimJoined
import GoSem.ClaimMapViews
import Derived.JoinedTies
import Derived.KernelRfl
namespace Go.Proofs.YtblggmblcjoalaaGreat
/- THE CELL 'sum', in the pinned program and in every row, IS THE sha256 OF THE DUMP (.gsa) THAT YtblggmblcjoalaaGreatProg.lean LOADS. Nothing in Lean hashes anything: it is a label: what it is worth is what the hold of that sum in a sandbox is worth. -/
noncomputable def Tryz.pinned : Pinned := { name := "ytblggmblcjoalaagreat", sum := "ef5d671b48e6ef63c198d0f03c10607648a5cfce82431c61e6a647736481bdba", checked := Tryz.checked }
namespace Rows
def none {H : Type} : Left H := { results := [], args := [] }

/-- 'freeboardlaw28.WakeTells': WHATEVER THE INPUT: true; the input reads as it did. -/
def wakeTellsSpec : ChangeSpec := { name := "wakeTells", fn := fun _ => fun
  | [d1, d2, d3, d4] => { results := [.lit (.bool true)], args := [d1, d2, d3, d4] }
  | _ => none }
def wakeTellsRow : OpenClaim := { program := "ytblggmblcjoalaagreat", sum := "ef5d671b48e6ef63c198d0f03c10607648a5cfce82431c61e6a647736481bdba", func := "freeboard/freeboardlaw28.WakeTells", spec := "wakeTells", inPlace := ["slices.overlaps[int]", "slices.overlaps[[]byte]", "slices.overlaps[freeboard/api.Head]"], unfollowed := true, recurses := true, apart := false }
def WakeTellsSaid : Prop := wakeTellsRow.holds Tryz.pinned (OpenSpec.ofChange wakeTellsSpec)

/-- ITS FALSE NEIGHBOUR: 'it returns false'. Refute it at one input. -/
def wakeTellsWrong : ChangeSpec := { name := "wakeTells", fn := fun _ => fun
  | [d1, d2, d3, d4] => { results := [.lit (.bool false)], args := [d1, d2, d3, d4] }
  | _ => none }
def WakeTellsWrongFalsely : Prop := wakeTellsRow.holds Tryz.pinned (OpenSpec.ofChange wakeTellsWrong)

/-- 'freeboardlaw28.WakeTold': WHATEVER THE INPUT: true; the input reads as it did. -/
def wakeToldSpec : ChangeSpec := { name := "wakeTold", fn := fun _ => fun
  | [d1, d2, d3, d4] => { results := [.lit (.bool true)], args := [d1, d2, d3, d4] }
  | _ => none }
def wakeToldRow : OpenClaim := { program := "ytblggmblcjoalaagreat", sum := "ef5d671b48e6ef63c198d0f03c10607648a5cfce82431c61e6a647736481bdba", func := "freeboard/freeboardlaw28.WakeTold", spec := "wakeTold", inPlace := ["slices.overlaps[int]", "slices.overlaps[[]byte]", "slices.overlaps[freeboard/api.Head]"], unfollowed := true, recurses := true, apart := false }
def WakeToldSaid : Prop := wakeToldRow.holds Tryz.pinned (OpenSpec.ofChange wakeToldSpec)

/-- ITS FALSE NEIGHBOUR: 'it returns false'. Refute it at one input. -/
def wakeToldWrong : ChangeSpec := { name := "wakeTold", fn := fun _ => fun
  | [d1, d2, d3, d4] => { results := [.lit (.bool false)], args := [d1, d2, d3, d4] }
  | _ => none }
def WakeToldWrongFalsely : Prop := wakeToldRow.holds Tryz.pinned (OpenSpec.ofChange wakeToldWrong)

/-- 'freeboardlaw28.WakeTwice': WHATEVER THE INPUT: true; the input reads as it did. -/
def wakeTwiceSpec : ChangeSpec := { name := "wakeTwice", fn := fun _ => fun
  | [d1, d2, d3, d4, d5] => { results := [.lit (.bool true)], args := [d1, d2, d3, d4, d5] }
  | _ => none }
def wakeTwiceRow : OpenClaim := { program := "ytblggmblcjoalaagreat", sum := "ef5d671b48e6ef63c198d0f03c10607648a5cfce82431c61e6a647736481bdba", func := "freeboard/freeboardlaw28.WakeTwice", spec := "wakeTwice", inPlace := ["slices.overlaps[int]", "slices.overlaps[[]byte]", "slices.overlaps[freeboard/api.Head]"], unfollowed := true, recurses := true, apart := false }
def WakeTwiceSaid : Prop := wakeTwiceRow.holds Tryz.pinned (OpenSpec.ofChange wakeTwiceSpec)

/-- ITS FALSE NEIGHBOUR: 'it returns false'. Refute it at one input. -/
def wakeTwiceWrong : ChangeSpec := { name := "wakeTwice", fn := fun _ => fun
  | [d1, d2, d3, d4, d5] => { results := [.lit (.bool false)], args := [d1, d2, d3, d4, d5] }
  | _ => none }
def WakeTwiceWrongFalsely : Prop := wakeTwiceRow.holds Tryz.pinned (OpenSpec.ofChange wakeTwiceWrong)

/-- 'freeboardlaw28.WakeAny': WHATEVER THE INPUT: true; the input reads as it did. -/
def wakeAnySpec : ChangeSpec := { name := "wakeAny", fn := fun _ => fun
  | [d1, d2, d3] => { results := [.lit (.bool true)], args := [d1, d2, d3] }
  | _ => none }
def wakeAnyRow : OpenClaim := { program := "ytblggmblcjoalaagreat", sum := "ef5d671b48e6ef63c198d0f03c10607648a5cfce82431c61e6a647736481bdba", func := "freeboard/freeboardlaw28.WakeAny", spec := "wakeAny", inPlace := ["slices.overlaps[int]", "slices.overlaps[[]byte]", "slices.overlaps[freeboard/api.Head]"], unfollowed := true, recurses := true, apart := false }
def WakeAnySaid : Prop := wakeAnyRow.holds Tryz.pinned (OpenSpec.ofChange wakeAnySpec)

/-- ITS FALSE NEIGHBOUR: 'it returns false'. Refute it at one input. -/
def wakeAnyWrong : ChangeSpec := { name := "wakeAny", fn := fun _ => fun
  | [d1, d2, d3] => { results := [.lit (.bool false)], args := [d1, d2, d3] }
  | _ => none }
def WakeAnyWrongFalsely : Prop := wakeAnyRow.holds Tryz.pinned (OpenSpec.ofChange wakeAnyWrong)

/-- 'freeboardlaw28.WakeNew': WHATEVER THE INPUT: true; the input reads as it did. -/
def wakeNewSpec : ChangeSpec := { name := "wakeNew", fn := fun _ => fun
  | [d1, d2, d3] => { results := [.lit (.bool true)], args := [d1, d2, d3] }
  | _ => none }
def wakeNewRow : OpenClaim := { program := "ytblggmblcjoalaagreat", sum := "ef5d671b48e6ef63c198d0f03c10607648a5cfce82431c61e6a647736481bdba", func := "freeboard/freeboardlaw28.WakeNew", spec := "wakeNew", inPlace := ["slices.overlaps[int]", "slices.overlaps[[]byte]", "slices.overlaps[freeboard/api.Head]"], unfollowed := true, recurses := true, apart := false }
def WakeNewSaid : Prop := wakeNewRow.holds Tryz.pinned (OpenSpec.ofChange wakeNewSpec)

/-- ITS FALSE NEIGHBOUR: 'it returns false'. Refute it at one input. -/
def wakeNewWrong : ChangeSpec := { name := "wakeNew", fn := fun _ => fun
  | [d1, d2, d3] => { results := [.lit (.bool false)], args := [d1, d2, d3] }
  | _ => none }
def WakeNewWrongFalsely : Prop := wakeNewRow.holds Tryz.pinned (OpenSpec.ofChange wakeNewWrong)

/- THE SECOND FORM. 'bulk': how many values and letters a reading holds, each counted each time it is reached (what is shared counts as often as it is met; a slice's spare places count too). A statement '..UptoSaid' is the law's where the arguments, and the package variables that the reading takes, are together of bulk at most 1048576: NARROWER than '..Said'. Prove '..Said' where nothing that the law and all that it calls make is longer than what came in: it says more and counts as full. Else prove '..UptoSaid'. A law counts once. -/
mutual
def uptoBulk {H : Type} : DataW H → Nat
  | .lit (.string bytes) => bytes.length + 1
  | .lit _ => 1
  | .nil => 1
  | .ptr d => uptoBulk d + 1
  | .slice elems spare => uptoBulkAll elems + uptoBulkAll spare + 1
  | .agg parts => uptoBulkAll parts + 1
  | .iface _ d => uptoBulk d + 1
  | .map entries => uptoBulkEntries entries + 1
  | .held _ => 1
def uptoBulkAll {H : Type} : List (DataW H) → Nat
  | [] => 0
  | d :: r => uptoBulk d + uptoBulkAll r
def uptoBulkEntries {H : Type} : List (Lit × DataW H) → Nat
  | [] => 0
  | x :: r => uptoBulkEntry x + uptoBulkEntries r
def uptoBulkEntry {H : Type} : Lit × DataW H → Nat
  | (.string bytes, d) => bytes.length + uptoBulk d + 1
  | (_, d) => uptoBulk d + 1
 end
def uptoSmall : (H : Type) → List (DataW H) → Bool := fun _ ds => decide (uptoBulkAll ds ≤ 1048576)
def OpenSpec.upto (s : _root_.Go.ChangeSpec) : _root_.Go.OpenSpec := { _root_.Go.OpenSpec.ofChange s with cond := some uptoSmall }

/-- 'freeboardlaw28.WakeTells', WHERE WHAT IT READS IS OF BULK AT MOST 1048576: true; the input reads as it did. -/
def wakeTellsUptoRow : OpenClaim := { program := "ytblggmblcjoalaagreat", sum := "ef5d671b48e6ef63c198d0f03c10607648a5cfce82431c61e6a647736481bdba", func := "freeboard/freeboardlaw28.WakeTells", spec := "wakeTells", inPlace := ["slices.overlaps[int]", "slices.overlaps[[]byte]", "slices.overlaps[freeboard/api.Head]"], unfollowed := true, recurses := true, apart := false, narrowed := true }
def WakeTellsUptoSaid : Prop := wakeTellsUptoRow.holds Tryz.pinned (OpenSpec.upto wakeTellsSpec)

/-- 'freeboardlaw28.WakeTold', WHERE WHAT IT READS IS OF BULK AT MOST 1048576: true; the input reads as it did. -/
def wakeToldUptoRow : OpenClaim := { program := "ytblggmblcjoalaagreat", sum := "ef5d671b48e6ef63c198d0f03c10607648a5cfce82431c61e6a647736481bdba", func := "freeboard/freeboardlaw28.WakeTold", spec := "wakeTold", inPlace := ["slices.overlaps[int]", "slices.overlaps[[]byte]", "slices.overlaps[freeboard/api.Head]"], unfollowed := true, recurses := true, apart := false, narrowed := true }
def WakeToldUptoSaid : Prop := wakeToldUptoRow.holds Tryz.pinned (OpenSpec.upto wakeToldSpec)

/-- 'freeboardlaw28.WakeTwice', WHERE WHAT IT READS IS OF BULK AT MOST 1048576: true; the input reads as it did. -/
def wakeTwiceUptoRow : OpenClaim := { program := "ytblggmblcjoalaagreat", sum := "ef5d671b48e6ef63c198d0f03c10607648a5cfce82431c61e6a647736481bdba", func := "freeboard/freeboardlaw28.WakeTwice", spec := "wakeTwice", inPlace := ["slices.overlaps[int]", "slices.overlaps[[]byte]", "slices.overlaps[freeboard/api.Head]"], unfollowed := true, recurses := true, apart := false, narrowed := true }
def WakeTwiceUptoSaid : Prop := wakeTwiceUptoRow.holds Tryz.pinned (OpenSpec.upto wakeTwiceSpec)

/-- 'freeboardlaw28.WakeAny', WHERE WHAT IT READS IS OF BULK AT MOST 1048576: true; the input reads as it did. -/
def wakeAnyUptoRow : OpenClaim := { program := "ytblggmblcjoalaagreat", sum := "ef5d671b48e6ef63c198d0f03c10607648a5cfce82431c61e6a647736481bdba", func := "freeboard/freeboardlaw28.WakeAny", spec := "wakeAny", inPlace := ["slices.overlaps[int]", "slices.overlaps[[]byte]", "slices.overlaps[freeboard/api.Head]"], unfollowed := true, recurses := true, apart := false, narrowed := true }
def WakeAnyUptoSaid : Prop := wakeAnyUptoRow.holds Tryz.pinned (OpenSpec.upto wakeAnySpec)

/-- 'freeboardlaw28.WakeNew', WHERE WHAT IT READS IS OF BULK AT MOST 1048576: true; the input reads as it did. -/
def wakeNewUptoRow : OpenClaim := { program := "ytblggmblcjoalaagreat", sum := "ef5d671b48e6ef63c198d0f03c10607648a5cfce82431c61e6a647736481bdba", func := "freeboard/freeboardlaw28.WakeNew", spec := "wakeNew", inPlace := ["slices.overlaps[int]", "slices.overlaps[[]byte]", "slices.overlaps[freeboard/api.Head]"], unfollowed := true, recurses := true, apart := false, narrowed := true }
def WakeNewUptoSaid : Prop := wakeNewUptoRow.holds Tryz.pinned (OpenSpec.upto wakeNewSpec)

end Rows
end Go.Proofs.YtblggmblcjoalaaGreat
