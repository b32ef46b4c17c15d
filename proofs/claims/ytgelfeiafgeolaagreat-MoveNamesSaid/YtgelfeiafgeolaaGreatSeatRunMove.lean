/-
  Functions of the program as the abstract machine reads them, and what is stated of them, checked by the kernel. No conditions.
-/
import Derived.Test.YtgelfeiafgeolaaGreatSeatEnv
set_option linter.unusedVariables false
set_option linter.unusedSimpArgs false

set_option maxRecDepth 1000000
namespace Go.AM
open Go.Proofs Go.AM.X
theorem runMove : isTrue (callA e1 (exec e1 100000) 5 [] St0) = true := by kernel_rfl
end Go.AM
