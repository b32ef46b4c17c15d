/-
 Functions of the program as the abstract machine reads them, and what is stated of them, checked by the kernel. No conditions.
-/
import Derived.Test.YtnnbibnobmegpaaXN
import Derived.Test.YtnnbibnobmegpaaAM1
import Derived.Test.YtnnbibnobmegpaaChecked
import Derived.KernelRfl
set_option linter.unusedVariables false
set_option linter.unusedSimpArgs false

set_option maxRecDepth 1000000
namespace Go.AM
open Go.Proofs Go.AM.X
theorem c23 : compF Try.prog Try.f23 = some a23 := by kernel_rfl
theorem c25 : compF Try.prog Try.f25 = some a25 := by kernel_rfl
theorem c35 : compF Try.prog Try.f35 = some a35 := by kernel_rfl
theorem c38 : compF Try.prog Try.f38 = some a38 := by kernel_rfl
theorem c47 : compF Try.prog Try.f47 = some a47 := by kernel_rfl
theorem c48 : compF Try.prog Try.f48 = some a48 := by kernel_rfl
theorem c49 : compF Try.prog Try.f49 = some a49 := by kernel_rfl
theorem c50 : compF Try.prog Try.f50 = some a50 := by kernel_rfl
theorem c51 : compF Try.prog Try.f51 = some a51 := by kernel_rfl
theorem c52 : compF Try.prog Try.f52 = some a52 := by kernel_rfl
theorem c54 : compF Try.prog Try.f54 = some a54 := by kernel_rfl
theorem c55 : compF Try.prog Try.f55 = some a55 := by kernel_rfl
theorem c56 : compF Try.prog Try.f56 = some a56 := by kernel_rfl
theorem c65 : compF Try.prog Try.f65 = some a65 := by kernel_rfl
theorem c66 : compF Try.prog Try.f66 = some a66 := by kernel_rfl
theorem c67 : compF Try.prog Try.f67 = some a67 := by kernel_rfl
theorem c71 : compF Try.prog Try.f71 = some a71 := by kernel_rfl
theorem c78 : compF Try.prog Try.f78 = some a78 := by kernel_rfl
theorem c82 : compF Try.prog Try.f82 = some a82 := by kernel_rfl
theorem c83 : compF Try.prog Try.f83 = some a83 := by kernel_rfl
theorem c86 : compF Try.prog Try.f86 = some a86 := by kernel_rfl
theorem c88 : compF Try.prog Try.f88 = some a88 := by kernel_rfl
theorem c89 : compF Try.prog Try.f89 = some a89 := by kernel_rfl
theorem c90 : compF Try.prog Try.f90 = some a90 := by kernel_rfl
theorem c91 : compF Try.prog Try.f91 = some a91 := by kernel_rfl
theorem c92 : compF Try.prog Try.f92 = some a92 := by kernel_rfl
theorem c93 : compF Try.prog Try.f93 = some a93 := by kernel_rfl
theorem c94 : compF Try.prog Try.f94 = some a94 := by kernel_rfl
theorem c95 : compF Try.prog Try.f95 = some a95 := by kernel_rfl
theorem c96 : compF Try.prog Try.f96 = some a96 := by kernel_rfl
theorem c97 : compF Try.prog Try.f97 = some a97 := by kernel_rfl
theorem c98 : compF Try.prog Try.f98 = some a98 := by kernel_rfl
theorem c99 : compF Try.prog Try.f99 = some a99 := by kernel_rfl
theorem c100 : compF Try.prog Try.f100 = some a100 := by kernel_rfl
theorem c101 : compF Try.prog Try.f101 = some a101 := by kernel_rfl
theorem c102 : compF Try.prog Try.f102 = some a102 := by kernel_rfl
theorem c103 : compF Try.prog Try.f103 = some a103 := by kernel_rfl
theorem c104 : compF Try.prog Try.f104 = some a104 := by kernel_rfl
theorem c105 : compF Try.prog Try.f105 = some a105 := by kernel_rfl
theorem c106 : compF Try.prog Try.f106 = some a106 := by kernel_rfl
theorem c107 : compF Try.prog Try.f107 = some a107 := by kernel_rfl
theorem c114 : compF Try.prog Try.f114 = some a114 := by kernel_rfl
theorem c121 : compF Try.prog Try.f121 = some a121 := by kernel_rfl
theorem c126 : compF Try.prog Try.f126 = some a126 := by kernel_rfl
theorem c130 : compF Try.prog Try.f130 = some a130 := by kernel_rfl
theorem c131 : compF Try.prog Try.f131 = some a131 := by kernel_rfl
theorem c132 : compF Try.prog Try.f132 = some a132 := by kernel_rfl
theorem c133 : compF Try.prog Try.f133 = some a133 := by kernel_rfl
theorem c135 : compF Try.prog Try.f135 = some a135 := by kernel_rfl
theorem c136 : compF Try.prog Try.f136 = some a136 := by kernel_rfl
theorem c137 : compF Try.prog Try.f137 = some a137 := by kernel_rfl
theorem c138 : compF Try.prog Try.f138 = some a138 := by kernel_rfl
theorem c139 : compF Try.prog Try.f139 = some a139 := by kernel_rfl
theorem c140 : compF Try.prog Try.f140 = some a140 := by kernel_rfl
theorem c141 : compF Try.prog Try.f141 = some a141 := by kernel_rfl
theorem c142 : compF Try.prog Try.f142 = some a142 := by kernel_rfl
theorem c143 : compF Try.prog Try.f143 = some a143 := by kernel_rfl
theorem c144 : compF Try.prog Try.f144 = some a144 := by kernel_rfl
theorem c145 : compF Try.prog Try.f145 = some a145 := by kernel_rfl
theorem c146 : compF Try.prog Try.f146 = some a146 := by kernel_rfl
theorem c147 : compF Try.prog Try.f147 = some a147 := by kernel_rfl
theorem c161 : compF Try.prog Try.f161 = some a161 := by kernel_rfl
theorem c162 : compF Try.prog Try.f162 = some a162 := by kernel_rfl
theorem c163 : compF Try.prog Try.f163 = some a163 := by kernel_rfl
theorem c170 : compF Try.prog Try.f170 = some a170 := by kernel_rfl
end Go.AM
