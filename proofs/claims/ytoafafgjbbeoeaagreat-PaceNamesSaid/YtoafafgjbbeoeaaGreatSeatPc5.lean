/-
  Functions of the program as the abstract machine reads them, and what is stated of them, checked by the kernel. No conditions.
-/
import Derived.Test.YtoafafgjbbeoeaaGreatSeatEnv
import Derived.Test.YtoafafgjbbeoeaaGreatSeatPt
import Derived.Test.YtoafafgjbbeoeaaGreatAM5
set_option linter.unusedVariables false
set_option linter.unusedSimpArgs false

set_option linter.unusedVariables false
set_option maxRecDepth 1000000
namespace Go.AM
open Go.Proofs Go.AM.X
theorem k6 : endsB (exec e1 100000 pcB (ofL tl5) (allocs St0 os5) none []) .normal tl6 os6 rs6 = true := by kernel_rfl
end Go.AM
