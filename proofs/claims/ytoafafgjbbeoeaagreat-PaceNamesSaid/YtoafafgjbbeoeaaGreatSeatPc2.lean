/-
  Functions of the program as the abstract machine reads them, and what is stated of them, checked by the kernel. No conditions.
-/
import Derived.Test.YtoafafgjbbeoeaaGreatSeatEnv
import Derived.Test.YtoafafgjbbeoeaaGreatSeatPt
import Derived.Test.YtoafafgjbbeoeaaGreatAM5
set_option linter.unusedVariables false
set_option linter.unusedSimpArgs false

set_option linter.unusedVariables false
set_option maxRecDepth 1000000
namespace Go.AM
open Go.Proofs Go.AM.X
theorem k3 : endsB (exec e1 100000 pcB (ofL tl2) (allocs St0 os2) none []) .normal tl3 os3 rs3 = true := by kernel_rfl
end Go.AM
