/-
  Functions of the program as the abstract machine reads them, and what is stated of them, checked by the kernel. No conditions.
-/
import Derived.Test.YtoafafgjbbeoeaaGreatSeatEnv
import Derived.Test.YtoafafgjbbeoeaaGreatSeatPt
import Derived.Test.YtoafafgjbbeoeaaGreatAM5
set_option linter.unusedVariables false
set_option linter.unusedSimpArgs false

set_option linter.unusedVariables false
set_option maxRecDepth 1000000
namespace Go.AM
open Go.Proofs Go.AM.X
theorem k8 : endsB (exec e1 100000 pcB (ofL tl7) (allocs St0 os7) none []) (.exit 0) tl8 os8 rs8 = true := by kernel_rfl
theorem kE : isTrue (callEnd [.tmp 0] (exec e1 100000 pcR (ofL tl8) (allocs St0 os8) none [])) = true := by kernel_rfl
end Go.AM
