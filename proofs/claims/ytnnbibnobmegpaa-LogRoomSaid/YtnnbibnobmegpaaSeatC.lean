/-
  Functions of the program as the abstract machine reads them, and what is stated of them, checked by the kernel. No conditions.
-/
import Derived.Test.YtnnbibnobmegpaaXN
import Derived.Test.YtnnbibnobmegpaaAM1
import Derived.Test.YtnnbibnobmegpaaChecked
import Derived.KernelRfl
set_option linter.unusedVariables false
set_option linter.unusedSimpArgs false

set_option maxRecDepth 1000000
namespace Go.AM
open Go.Proofs Go.AM.X
theorem c30 : compF Try.prog Try.f30 = some a30 := by kernel_rfl
theorem c33 : compF Try.prog Try.f33 = some a33 := by kernel_rfl
theorem c34 : compF Try.prog Try.f34 = some a34 := by kernel_rfl
theorem c35 : compF Try.prog Try.f35 = some a35 := by kernel_rfl
theorem c38 : compF Try.prog Try.f38 = some a38 := by kernel_rfl
theorem c42 : compF Try.prog Try.f42 = some a42 := by kernel_rfl
theorem c43 : compF Try.prog Try.f43 = some a43 := by kernel_rfl
theorem c44 : compF Try.prog Try.f44 = some a44 := by kernel_rfl
theorem c48 : compF Try.prog Try.f48 = some a48 := by kernel_rfl
theorem c50 : compF Try.prog Try.f50 = some a50 := by kernel_rfl
theorem c53 : compF Try.prog Try.f53 = some a53 := by kernel_rfl
theorem c67 : compF Try.prog Try.f67 = some a67 := by kernel_rfl
theorem c77 : compF Try.prog Try.f77 = some a77 := by kernel_rfl
theorem c78 : compF Try.prog Try.f78 = some a78 := by kernel_rfl
theorem c79 : compF Try.prog Try.f79 = some a79 := by kernel_rfl
theorem c80 : compF Try.prog Try.f80 = some a80 := by kernel_rfl
theorem c81 : compF Try.prog Try.f81 = some a81 := by kernel_rfl
theorem c82 : compF Try.prog Try.f82 = some a82 := by kernel_rfl
theorem c83 : compF Try.prog Try.f83 = some a83 := by kernel_rfl
theorem c85 : compF Try.prog Try.f85 = some a85 := by kernel_rfl
theorem c87 : compF Try.prog Try.f87 = some a87 := by kernel_rfl
theorem c88 : compF Try.prog Try.f88 = some a88 := by kernel_rfl
theorem c89 : compF Try.prog Try.f89 = some a89 := by kernel_rfl
theorem c90 : compF Try.prog Try.f90 = some a90 := by kernel_rfl
theorem c91 : compF Try.prog Try.f91 = some a91 := by kernel_rfl
theorem c93 : compF Try.prog Try.f93 = some a93 := by kernel_rfl
theorem c94 : compF Try.prog Try.f94 = some a94 := by kernel_rfl
theorem c95 : compF Try.prog Try.f95 = some a95 := by kernel_rfl
theorem c100 : compF Try.prog Try.f100 = some a100 := by kernel_rfl
theorem c107 : compF Try.prog Try.f107 = some a107 := by kernel_rfl
theorem c121 : compF Try.prog Try.f121 = some a121 := by kernel_rfl
theorem c122 : compF Try.prog Try.f122 = some a122 := by kernel_rfl
theorem c123 : compF Try.prog Try.f123 = some a123 := by kernel_rfl
theorem c124 : compF Try.prog Try.f124 = some a124 := by kernel_rfl
theorem c125 : compF Try.prog Try.f125 = some a125 := by kernel_rfl
theorem c126 : compF Try.prog Try.f126 = some a126 := by kernel_rfl
theorem c127 : compF Try.prog Try.f127 = some a127 := by kernel_rfl
theorem c130 : compF Try.prog Try.f130 = some a130 := by kernel_rfl
theorem c131 : compF Try.prog Try.f131 = some a131 := by kernel_rfl
theorem c132 : compF Try.prog Try.f132 = some a132 := by kernel_rfl
theorem c133 : compF Try.prog Try.f133 = some a133 := by kernel_rfl
theorem c135 : compF Try.prog Try.f135 = some a135 := by kernel_rfl
theorem c138 : compF Try.prog Try.f138 = some a138 := by kernel_rfl
theorem c142 : compF Try.prog Try.f142 = some a142 := by kernel_rfl
theorem c147 : compF Try.prog Try.f147 = some a147 := by kernel_rfl
theorem c159 : compF Try.prog Try.f159 = some a159 := by kernel_rfl
theorem c160 : compF Try.prog Try.f160 = some a160 := by kernel_rfl
theorem c161 : compF Try.prog Try.f161 = some a161 := by kernel_rfl
theorem c162 : compF Try.prog Try.f162 = some a162 := by kernel_rfl
theorem c169 : compF Try.prog Try.f169 = some a169 := by kernel_rfl
theorem c170 : compF Try.prog Try.f170 = some a170 := by kernel_rfl
end Go.AM
