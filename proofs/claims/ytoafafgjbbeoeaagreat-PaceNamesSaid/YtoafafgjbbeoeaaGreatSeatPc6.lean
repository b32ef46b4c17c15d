/-
  Functions of the program as the abstract machine reads them, and what is stated of them, checked by the kernel. No conditions.
-/
import Derived.Test.YtoafafgjbbeoeaaGreatSeatEnv
import Derived.Test.YtoafafgjbbeoeaaGreatSeatPt
import Derived.Test.YtoafafgjbbeoeaaGreatAM5
set_option linter.unusedVariables false
set_option linter.unusedSimpArgs false

set_option linter.unusedVariables false
set_option maxRecDepth 1000000
namespace Go.AM
open Go.Proofs Go.AM.X
theorem k7 : endsB (exec e1 100000 pcB (ofL tl6) (allocs St0 os6) none []) .normal tl7 os7 rs7 = true := by kernel_rfl
end Go.AM
