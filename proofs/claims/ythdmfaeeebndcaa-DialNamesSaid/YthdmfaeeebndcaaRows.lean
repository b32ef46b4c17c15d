/-
  No cell of these rows narrows 'for every input' (looked for: loops, veiled, ifaces, maps, wideKeys, modest, calm, conditions, laid).
  DERIVED. THE GIVEN ROWS OF THIS SEAT. 6 by the template 'for every input the law returns true; each argument reads behind the call as it read before'; 0 by the template 'total and deterministic' (their statements: YthdmfaeeebndcaaTotals.lean).
  GIVEN WITH THE SEED: the statements are not yours to turn. If you find one false, say at which input.
  Laid BY PROGRAM, IN A SANDBOX (cutbox-rows.mjs): the forced cells as the released guide's own fill.sh prints them over the translation c6ed5561b1031b35… (all of the seat's roots in one cut). By AI agents, Wed Nov 11 2026. No macro, syntax, notation, axiom, sorry.
-/
import Derived.Test.YthdmfaeeebndcaaChecked
import GoSem.Claim
import GoSem.ClaimJoined
import GoSem.ClaimMapViews
import Derived.JoinedTies
import Derived.KernelRfl
namespace Go.Proofs.Ythdmfaeeebndcaa
/- THE CELL 'sum', in the pinned program and in every row, IS THE sha256 OF THE DUMP (.gsa) THAT YthdmfaeeebndcaaProg.lean LOADS. Nothing in Lean hashes anything: it is a label: what it is worth is what the hold of that sum in a sandbox is worth. -/
noncomputable def Try.pinned : Pinned := { name := "ythdmfaeeebndcaa", sum := "c6ed5561b1031b35437f004cd9730682acd08e326bc31ac59f97d851a4b27b73", checked := Try.checked }
namespace Rows
def none {H : Type} : Left H := { results := [], args := [] }

/-- 'freeboardlaw12.DialNames': WHATEVER THE INPUT: true; the input reads as it did. -/
def dialNamesSpec : ChangeSpec := { name := "dialNames", fn := fun _ => fun
  | [] => { results := [.lit (.bool true)], args := [] }
  | _ => none }
def dialNamesRow : OpenClaim := { program := "ythdmfaeeebndcaa", sum := "c6ed5561b1031b35437f004cd9730682acd08e326bc31ac59f97d851a4b27b73", func := "freeboard/freeboardlaw12.DialNames", spec := "dialNames", apart := false }
def DialNamesSaid : Prop := dialNamesRow.holds Try.pinned (OpenSpec.ofChange dialNamesSpec)

/-- ITS FALSE NEIGHBOUR: 'it returns false'. Refute it at one input. -/
def dialNamesWrong : ChangeSpec := { name := "dialNames", fn := fun _ => fun
  | [] => { results := [.lit (.bool false)], args := [] }
  | _ => none }
def DialNamesWrongFalsely : Prop := dialNamesRow.holds Try.pinned (OpenSpec.ofChange dialNamesWrong)

/-- 'freeboardlaw12.DialTells': WHATEVER THE INPUT: true; the input reads as it did. -/
def dialTellsSpec : ChangeSpec := { name := "dialTells", fn := fun _ => fun
  | [d1, d2, d3] => { results := [.lit (.bool true)], args := [d1, d2, d3] }
  | _ => none }
def dialTellsRow : OpenClaim := { program := "ythdmfaeeebndcaa", sum := "c6ed5561b1031b35437f004cd9730682acd08e326bc31ac59f97d851a4b27b73", func := "freeboard/freeboardlaw12.DialTells", spec := "dialTells", apart := false }
def DialTellsSaid : Prop := dialTellsRow.holds Try.pinned (OpenSpec.ofChange dialTellsSpec)

/-- ITS FALSE NEIGHBOUR: 'it returns false'. Refute it at one input. -/
def dialTellsWrong : ChangeSpec := { name := "dialTells", fn := fun _ => fun
  | [d1, d2, d3] => { results := [.lit (.bool false)], args := [d1, d2, d3] }
  | _ => none }
def DialTellsWrongFalsely : Prop := dialTellsRow.holds Try.pinned (OpenSpec.ofChange dialTellsWrong)

/-- 'freeboardlaw12.DialBack': WHATEVER THE INPUT: true; the input reads as it did. -/
def dialBackSpec : ChangeSpec := { name := "dialBack", fn := fun _ => fun
  | [d1, d2, d3, d4] => { results := [.lit (.bool true)], args := [d1, d2, d3, d4] }
  | _ => none }
def dialBackRow : OpenClaim := { program := "ythdmfaeeebndcaa", sum := "c6ed5561b1031b35437f004cd9730682acd08e326bc31ac59f97d851a4b27b73", func := "freeboard/freeboardlaw12.DialBack", spec := "dialBack", apart := false }
def DialBackSaid : Prop := dialBackRow.holds Try.pinned (OpenSpec.ofChange dialBackSpec)

/-- ITS FALSE NEIGHBOUR: 'it returns false'. Refute it at one input. -/
def dialBackWrong : ChangeSpec := { name := "dialBack", fn := fun _ => fun
  | [d1, d2, d3, d4] => { results := [.lit (.bool false)], args := [d1, d2, d3, d4] }
  | _ => none }
def DialBackWrongFalsely : Prop := dialBackRow.holds Try.pinned (OpenSpec.ofChange dialBackWrong)

/-- 'freeboardlaw12.DialTwice': WHATEVER THE INPUT: true; the input reads as it did. -/
def dialTwiceSpec : ChangeSpec := { name := "dialTwice", fn := fun _ => fun
  | [d1, d2, d3, d4] => { results := [.lit (.bool true)], args := [d1, d2, d3, d4] }
  | _ => none }
def dialTwiceRow : OpenClaim := { program := "ythdmfaeeebndcaa", sum := "c6ed5561b1031b35437f004cd9730682acd08e326bc31ac59f97d851a4b27b73", func := "freeboard/freeboardlaw12.DialTwice", spec := "dialTwice", apart := false }
def DialTwiceSaid : Prop := dialTwiceRow.holds Try.pinned (OpenSpec.ofChange dialTwiceSpec)

/-- ITS FALSE NEIGHBOUR: 'it returns false'. Refute it at one input. -/
def dialTwiceWrong : ChangeSpec := { name := "dialTwice", fn := fun _ => fun
  | [d1, d2, d3, d4] => { results := [.lit (.bool false)], args := [d1, d2, d3, d4] }
  | _ => none }
def DialTwiceWrongFalsely : Prop := dialTwiceRow.holds Try.pinned (OpenSpec.ofChange dialTwiceWrong)

/-- 'freeboardlaw12.DialGaps': WHATEVER THE INPUT: true; the input reads as it did. -/
def dialGapsSpec : ChangeSpec := { name := "dialGaps", fn := fun _ => fun
  | [d1, d2, d3, d4] => { results := [.lit (.bool true)], args := [d1, d2, d3, d4] }
  | _ => none }
def dialGapsRow : OpenClaim := { program := "ythdmfaeeebndcaa", sum := "c6ed5561b1031b35437f004cd9730682acd08e326bc31ac59f97d851a4b27b73", func := "freeboard/freeboardlaw12.DialGaps", spec := "dialGaps", apart := false }
def DialGapsSaid : Prop := dialGapsRow.holds Try.pinned (OpenSpec.ofChange dialGapsSpec)

/-- ITS FALSE NEIGHBOUR: 'it returns false'. Refute it at one input. -/
def dialGapsWrong : ChangeSpec := { name := "dialGaps", fn := fun _ => fun
  | [d1, d2, d3, d4] => { results := [.lit (.bool false)], args := [d1, d2, d3, d4] }
  | _ => none }
def DialGapsWrongFalsely : Prop := dialGapsRow.holds Try.pinned (OpenSpec.ofChange dialGapsWrong)

/-- 'freeboardlaw12.DialBounds': WHATEVER THE INPUT: true; the input reads as it did. -/
def dialBoundsSpec : ChangeSpec := { name := "dialBounds", fn := fun _ => fun
  | [d1, d2, d3] => { results := [.lit (.bool true)], args := [d1, d2, d3] }
  | _ => none }
def dialBoundsRow : OpenClaim := { program := "ythdmfaeeebndcaa", sum := "c6ed5561b1031b35437f004cd9730682acd08e326bc31ac59f97d851a4b27b73", func := "freeboard/freeboardlaw12.DialBounds", spec := "dialBounds", apart := false }
def DialBoundsSaid : Prop := dialBoundsRow.holds Try.pinned (OpenSpec.ofChange dialBoundsSpec)

/-- ITS FALSE NEIGHBOUR: 'it returns false'. Refute it at one input. -/
def dialBoundsWrong : ChangeSpec := { name := "dialBounds", fn := fun _ => fun
  | [d1, d2, d3] => { results := [.lit (.bool false)], args := [d1, d2, d3] }
  | _ => none }
def DialBoundsWrongFalsely : Prop := dialBoundsRow.holds Try.pinned (OpenSpec.ofChange dialBoundsWrong)

/- THE SECOND FORM. 'bulk': how many values and letters a reading holds, each counted each time it is reached (what is shared counts as often as it is met; a slice's spare places count too). A statement '..UptoSaid' is the law's where the arguments, and the package variables that the reading takes, are together of bulk at most 1048576: NARROWER than '..Said'. Prove '..Said' where nothing that the law and all that it calls make is longer than what came in: it says more and counts as full. Else prove '..UptoSaid'. A law counts once. -/
mutual
def uptoBulk {H : Type} : DataW H → Nat
  | .lit (.string bytes) => bytes.length + 1
  | .lit _ => 1
  | .nil => 1
  | .ptr d => uptoBulk d + 1
  | .slice elems spare => uptoBulkAll elems + uptoBulkAll spare + 1
  | .agg parts => uptoBulkAll parts + 1
  | .iface _ d => uptoBulk d + 1
  | .map entries => uptoBulkEntries entries + 1
  | .held _ => 1
def uptoBulkAll {H : Type} : List (DataW H) → Nat
  | [] => 0
  | d :: r => uptoBulk d + uptoBulkAll r
def uptoBulkEntries {H : Type} : List (Lit × DataW H) → Nat
  | [] => 0
  | x :: r => uptoBulkEntry x + uptoBulkEntries r
def uptoBulkEntry {H : Type} : Lit × DataW H → Nat
  | (.string bytes, d) => bytes.length + uptoBulk d + 1
  | (_, d) => uptoBulk d + 1
 end
def uptoSmall : (H : Type) → List (DataW H) → Bool := fun _ ds => decide (uptoBulkAll ds ≤ 1048576)
def OpenSpec.upto (s : _root_.Go.ChangeSpec) : _root_.Go.OpenSpec := { _root_.Go.OpenSpec.ofChange s with cond := some uptoSmall }

/-- 'freeboardlaw12.DialNames', WHERE WHAT IT READS IS OF BULK AT MOST 1048576: true; the input reads as it did. -/
def dialNamesUptoRow : OpenClaim := { program := "ythdmfaeeebndcaa", sum := "c6ed5561b1031b35437f004cd9730682acd08e326bc31ac59f97d851a4b27b73", func := "freeboard/freeboardlaw12.DialNames", spec := "dialNames", apart := false, narrowed := true }
def DialNamesUptoSaid : Prop := dialNamesUptoRow.holds Try.pinned (OpenSpec.upto dialNamesSpec)

/-- 'freeboardlaw12.DialTells', WHERE WHAT IT READS IS OF BULK AT MOST 1048576: true; the input reads as it did. -/
def dialTellsUptoRow : OpenClaim := { program := "ythdmfaeeebndcaa", sum := "c6ed5561b1031b35437f004cd9730682acd08e326bc31ac59f97d851a4b27b73", func := "freeboard/freeboardlaw12.DialTells", spec := "dialTells", apart := false, narrowed := true }
def DialTellsUptoSaid : Prop := dialTellsUptoRow.holds Try.pinned (OpenSpec.upto dialTellsSpec)

/-- 'freeboardlaw12.DialBack', WHERE WHAT IT READS IS OF BULK AT MOST 1048576: true; the input reads as it did. -/
def dialBackUptoRow : OpenClaim := { program := "ythdmfaeeebndcaa", sum := "c6ed5561b1031b35437f004cd9730682acd08e326bc31ac59f97d851a4b27b73", func := "freeboard/freeboardlaw12.DialBack", spec := "dialBack", apart := false, narrowed := true }
def DialBackUptoSaid : Prop := dialBackUptoRow.holds Try.pinned (OpenSpec.upto dialBackSpec)

/-- 'freeboardlaw12.DialTwice', WHERE WHAT IT READS IS OF BULK AT MOST 1048576: true; the input reads as it did. -/
def dialTwiceUptoRow : OpenClaim := { program := "ythdmfaeeebndcaa", sum := "c6ed5561b1031b35437f004cd9730682acd08e326bc31ac59f97d851a4b27b73", func := "freeboard/freeboardlaw12.DialTwice", spec := "dialTwice", apart := false, narrowed := true }
def DialTwiceUptoSaid : Prop := dialTwiceUptoRow.holds Try.pinned (OpenSpec.upto dialTwiceSpec)

/-- 'freeboardlaw12.DialGaps', WHERE WHAT IT READS IS OF BULK AT MOST 1048576: true; the input reads as it did. -/
def dialGapsUptoRow : OpenClaim := { program := "ythdmfaeeebndcaa", sum := "c6ed5561b1031b35437f004cd9730682acd08e326bc31ac59f97d851a4b27b73", func := "freeboard/freeboardlaw12.DialGaps", spec := "dialGaps", apart := false, narrowed := true }
def DialGapsUptoSaid : Prop := dialGapsUptoRow.holds Try.pinned (OpenSpec.upto dialGapsSpec)

/-- 'freeboardlaw12.DialBounds', WHERE WHAT IT READS IS OF BULK AT MOST 1048576: true; the input reads as it did. -/
def dialBoundsUptoRow : OpenClaim := { program := "ythdmfaeeebndcaa", sum := "c6ed5561b1031b35437f004cd9730682acd08e326bc31ac59f97d851a4b27b73", func := "freeboard/freeboardlaw12.DialBounds", spec := "dialBounds", apart := false, narrowed := true }
def DialBoundsUptoSaid : Prop := dialBoundsUptoRow.holds Try.pinned (OpenSpec.upto dialBoundsSpec)

end Rows
end Go.Proofs.Ythdmfaeeebndcaa
