/-
 Functions of the program as the abstract machine reads them, and what is stated of them, checked by the kernel. No conditions.
-/
import Derived.Test.YtnnbibnobmegpaaXN
import Derived.Test.YtnnbibnobmegpaaAM1
import Derived.Test.YtnnbibnobmegpaaChecked
import Derived.KernelRfl
set_option linter.unusedVariables false
set_option linter.unusedSimpArgs false
set_option maxRecDepth 1000000
namespace Go.AM
open Go.Proofs Go.AM.X
theorem c86 : compF Try.prog Try.f86 = some a86 := by kernel_rfl
theorem c107 : compF Try.prog Try.f107 = some a107 := by kernel_rfl
theorem c130 : compF Try.prog Try.f130 = some a130 := by kernel_rfl
theorem c131 : compF Try.prog Try.f131 = some a131 := by kernel_rfl
theorem c147 : compF Try.prog Try.f147 = some a147 := by kernel_rfl
theorem c161 : compF Try.prog Try.f161 = some a161 := by kernel_rfl
end Go.AM
