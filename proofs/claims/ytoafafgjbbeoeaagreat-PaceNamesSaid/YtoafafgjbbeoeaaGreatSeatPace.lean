/-
  Functions of the program as the abstract machine reads them, and what is stated of them, checked by the kernel. No conditions.
-/
import Derived.Test.YtoafafgjbbeoeaaGreatSeatEnv
import Derived.Test.YtoafafgjbbeoeaaGreatAM5
import Derived.Test.YtoafafgjbbeoeaaGreatSeatPc0
import Derived.Test.YtoafafgjbbeoeaaGreatSeatPc1
import Derived.Test.YtoafafgjbbeoeaaGreatSeatPc2
import Derived.Test.YtoafafgjbbeoeaaGreatSeatPc3
import Derived.Test.YtoafafgjbbeoeaaGreatSeatPc4
import Derived.Test.YtoafafgjbbeoeaaGreatSeatPc5
import Derived.Test.YtoafafgjbbeoeaaGreatSeatPc6
import Derived.Test.YtoafafgjbbeoeaaGreatSeatPc7
set_option linter.unusedVariables false
set_option linter.unusedSimpArgs false

set_option linter.unusedVariables false
set_option maxRecDepth 1000000
namespace Go.AM
open Go.Proofs Go.AM.X
attribute [local irreducible] W
def tlF : Nat → List (Nat × AV)
  | 0 => tl0 | 1 => tl1 | 2 => tl2 | 3 => tl3 | 4 => tl4 | 5 => tl5 | 6 => tl6 | _ => tl7
def osF : Nat → List AObj
  | 0 => os0 | 1 => os1 | 2 => os2 | 3 => os3 | 4 => os4 | 5 => os5 | 6 => os6 | _ => os7
theorem pace_C : C Tryz.prog 3 [] St0 (fun u _ => u = .bool true) := by
  refine C.of_W (code := codeP) (res := [.tmp 0]) Tryz.func3 c3 ?_
  rw [code_eq]
  refine W.cutL e1_ok mixed kP (fun t s h => W.abs tlP osP rsP h ?_)
  refine W.seq (W.seq (W.cut e1_ok mixed k0 (fun t s h => W.abs tl0 os0 rs0 h ?_)))
  refine W.block (W.loopS (α := Nat) tlF osF (fun i => 7 - i) (fun i => i ≤ 7) 0 (List.range 11) (Nat.zero_le _) (absB_ok kI) ?_)
  intro i hi
  match i, hi with
  | 0, _ => exact W.cut e1_ok mixed k1 (fun t s h => ⟨rfl, 1, by decide, by decide, rs1, h⟩)
  | 1, _ => exact W.cut e1_ok mixed k2 (fun t s h => ⟨rfl, 2, by decide, by decide, rs2, h⟩)
  | 2, _ => exact W.cut e1_ok mixed k3 (fun t s h => ⟨rfl, 3, by decide, by decide, rs3, h⟩)
  | 3, _ => exact W.cut e1_ok mixed k4 (fun t s h => ⟨rfl, 4, by decide, by decide, rs4, h⟩)
  | 4, _ => exact W.cut e1_ok mixed k5 (fun t s h => ⟨rfl, 5, by decide, by decide, rs5, h⟩)
  | 5, _ => exact W.cut e1_ok mixed k6 (fun t s h => ⟨rfl, 6, by decide, by decide, rs6, h⟩)
  | 6, _ => exact W.cut e1_ok mixed k7 (fun t s h => ⟨rfl, 7, by decide, by decide, rs7, h⟩)
  | 7, _ => exact W.cut e1_ok mixed k8 (fun t s h => W.abs tl8 os8 rs8 h (W.last e1_ok mixed kE))
end Go.AM
