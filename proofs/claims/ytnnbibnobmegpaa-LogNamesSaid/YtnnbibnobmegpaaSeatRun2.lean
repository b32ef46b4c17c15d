/-
  Functions of the program as the abstract machine reads them, printed by program; what is stated of them is checked by the kernel. No conditions.
-/
import Derived.Test.YtnnbibnobmegpaaSeatEnv
set_option maxRecDepth 1000000
set_option linter.unusedVariables false
set_option linter.unusedSimpArgs false
namespace Go.AM
open Go.Proofs Go.AM.X
theorem runLog : isTrue (callA e1 (exec e1 100000) 9 [] St0) = true := by kernel_rfl
end Go.AM
