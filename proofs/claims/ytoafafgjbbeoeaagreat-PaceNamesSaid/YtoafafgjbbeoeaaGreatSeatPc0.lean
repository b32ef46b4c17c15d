/-
  Functions of the program as the abstract machine reads them, and what is stated of them, checked by the kernel. No conditions.
-/
import Derived.Test.YtoafafgjbbeoeaaGreatSeatEnv
import Derived.Test.YtoafafgjbbeoeaaGreatSeatPt
import Derived.Test.YtoafafgjbbeoeaaGreatAM5
set_option linter.unusedVariables false
set_option linter.unusedSimpArgs false

set_option linter.unusedVariables false
set_option maxRecDepth 1000000
namespace Go.AM
open Go.Proofs Go.AM.X
theorem kP : endsB (runL e1 100000 [pc0, pc1, pc2] (initT [] 0 .lf) St0) .normal tlP osP rsP = true := by kernel_rfl
theorem k0 : endsB (exec e1 100000 pc3 (ofL tlP) (allocs St0 osP) none []) .normal tl0 os0 rs0 = true := by kernel_rfl
theorem kI : absB (ofL tl0) (allocs St0 os0) tl0 os0 (List.range 11) = true := by kernel_rfl
theorem k1 : endsB (exec e1 100000 pcB (ofL tl0) (allocs St0 os0) none []) .normal tl1 os1 rs1 = true := by kernel_rfl
end Go.AM
