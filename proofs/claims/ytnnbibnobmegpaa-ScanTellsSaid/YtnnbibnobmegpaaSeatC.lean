/-
 Functions of the program as the abstract machine reads them, and what is stated of them, checked by the kernel. No conditions.
-/
import Derived.Test.YtnnbibnobmegpaaXN
import Derived.Test.YtnnbibnobmegpaaAM1
import Derived.Test.YtnnbibnobmegpaaChecked
import Derived.KernelRfl
set_option linter.unusedVariables false
set_option linter.unusedSimpArgs false
set_option maxRecDepth 1000000
namespace Go.AM
open Go.Proofs Go.AM.X
theorem c41:Zaj Try.prog Try.f41=some a41:=by kernel_rfl
theorem c67:Zaj Try.prog Try.f67=some a67:=by kernel_rfl
theorem c84:Zaj Try.prog Try.f84=some a84:=by kernel_rfl
theorem c86:Zaj Try.prog Try.f86=some a86:=by kernel_rfl
theorem c107:Zaj Try.prog Try.f107=some a107:=by kernel_rfl
theorem c127:Zaj Try.prog Try.f127=some a127:=by kernel_rfl
theorem c128:Zaj Try.prog Try.f128=some a128:=by kernel_rfl
theorem c129:Zaj Try.prog Try.f129=some a129:=by kernel_rfl
theorem c130:Zaj Try.prog Try.f130=some a130:=by kernel_rfl
theorem c131:Zaj Try.prog Try.f131=some a131:=by kernel_rfl
theorem c147:Zaj Try.prog Try.f147=some a147:=by kernel_rfl
theorem c160:Zaj Try.prog Try.f160=some a160:=by kernel_rfl
theorem c161:Zaj Try.prog Try.f161=some a161:=by kernel_rfl
end Go.AM
