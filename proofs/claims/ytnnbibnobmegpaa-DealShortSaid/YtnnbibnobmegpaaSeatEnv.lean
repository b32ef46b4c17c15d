/-
 Functions of the program as the abstract machine reads them, and what is stated of them, checked by the kernel. No conditions.
-/
import Derived.Test.YtnnbibnobmegpaaSeatC
import Derived.Test.YtnnbibnobmegpaaSeatS
import Derived.WalkKit
set_option linter.unusedVariables false
set_option linter.unusedSimpArgs false

set_option maxRecDepth 1000000
namespace Go.AM
open Go.Proofs Go.AM.X
theorem mixed : Try.prog.follows .mixedOrders = true := by kernel_rfl
theorem tbl_eq : tbl = ofT gl := by kernel_rfl
theorem gOk : All (GOk Try.prog) gl := by
 exact ⟨⟨Try.f23, Try.func23, c23, by kernel_rfl⟩, ⟨Try.f25, Try.func25, c25, by kernel_rfl⟩, ⟨Try.f35, Try.func35, c35, by kernel_rfl⟩, ⟨Try.f38, Try.func38, c38, by kernel_rfl⟩, ⟨Try.f47, Try.func47, c47, by kernel_rfl⟩, ⟨Try.f48, Try.func48, c48, by kernel_rfl⟩, ⟨Try.f49, Try.func49, c49, by kernel_rfl⟩, ⟨Try.f50, Try.func50, c50, by kernel_rfl⟩, ⟨Try.f51, Try.func51, c51, by kernel_rfl⟩, ⟨Try.f52, Try.func52, c52, by kernel_rfl⟩, ⟨Try.f54, Try.func54, c54, by kernel_rfl⟩, ⟨Try.f55, Try.func55, c55, by kernel_rfl⟩, ⟨Try.f56, Try.func56, c56, by kernel_rfl⟩, ⟨Try.f65, Try.func65, c65, by kernel_rfl⟩, ⟨Try.f66, Try.func66, c66, by kernel_rfl⟩, ⟨Try.f67, Try.func67, c67, by kernel_rfl⟩, ⟨Try.f71, Try.func71, c71, by kernel_rfl⟩, ⟨Try.f78, Try.func78, c78, by kernel_rfl⟩, ⟨Try.f82, Try.func82, c82, by kernel_rfl⟩, ⟨Try.f83, Try.func83, c83, by kernel_rfl⟩, ⟨Try.f86, Try.func86, c86, by kernel_rfl⟩, ⟨Try.f88, Try.func88, c88, by kernel_rfl⟩, ⟨Try.f89, Try.func89, c89, by kernel_rfl⟩, ⟨Try.f90, Try.func90, c90, by kernel_rfl⟩, ⟨Try.f91, Try.func91, c91, by kernel_rfl⟩, ⟨Try.f92, Try.func92, c92, by kernel_rfl⟩, ⟨Try.f93, Try.func93, c93, by kernel_rfl⟩, ⟨Try.f94, Try.func94, c94, by kernel_rfl⟩, ⟨Try.f95, Try.func95, c95, by kernel_rfl⟩, ⟨Try.f96, Try.func96, c96, by kernel_rfl⟩, ⟨Try.f97, Try.func97, c97, by kernel_rfl⟩, ⟨Try.f98, Try.func98, c98, by kernel_rfl⟩, ⟨Try.f99, Try.func99, c99, by kernel_rfl⟩, ⟨Try.f100, Try.func100, c100, by kernel_rfl⟩, ⟨Try.f101, Try.func101, c101, by kernel_rfl⟩, ⟨Try.f102, Try.func102, c102, by kernel_rfl⟩, ⟨Try.f103, Try.func103, c103, by kernel_rfl⟩, ⟨Try.f104, Try.func104, c104, by kernel_rfl⟩, ⟨Try.f105, Try.func105, c105, by kernel_rfl⟩, ⟨Try.f106, Try.func106, c106, by kernel_rfl⟩, ⟨Try.f107, Try.func107, c107, by kernel_rfl⟩, ⟨Try.f114, Try.func114, c114, by kernel_rfl⟩, ⟨Try.f121, Try.func121, c121, by kernel_rfl⟩, ⟨Try.f126, Try.func126, c126, by kernel_rfl⟩, ⟨Try.f130, Try.func130, c130, by kernel_rfl⟩, ⟨Try.f131, Try.func131, c131, by kernel_rfl⟩, ⟨Try.f132, Try.func132, c132, by kernel_rfl⟩, ⟨Try.f133, Try.func133, c133, by kernel_rfl⟩, ⟨Try.f135, Try.func135, c135, by kernel_rfl⟩, ⟨Try.f136, Try.func136, c136, by kernel_rfl⟩, ⟨Try.f137, Try.func137, c137, by kernel_rfl⟩, ⟨Try.f138, Try.func138, c138, by kernel_rfl⟩, ⟨Try.f139, Try.func139, c139, by kernel_rfl⟩, ⟨Try.f140, Try.func140, c140, by kernel_rfl⟩, ⟨Try.f141, Try.func141, c141, by kernel_rfl⟩, ⟨Try.f142, Try.func142, c142, by kernel_rfl⟩, ⟨Try.f143, Try.func143, c143, by kernel_rfl⟩, ⟨Try.f144, Try.func144, c144, by kernel_rfl⟩, ⟨Try.f145, Try.func145, c145, by kernel_rfl⟩, ⟨Try.f146, Try.func146, c146, by kernel_rfl⟩, ⟨Try.f147, Try.func147, c147, by kernel_rfl⟩, ⟨Try.f161, Try.func161, c161, by kernel_rfl⟩, ⟨Try.f162, Try.func162, c162, by kernel_rfl⟩, ⟨Try.f163, Try.func163, c163, by kernel_rfl⟩, ⟨Try.f170, Try.func170, c170, by kernel_rfl⟩, trivial⟩
theorem xOk : All (XOk Try.prog) [(134, ovlO)] :=
 ⟨ovlO_ok (tS := 25) (tR := 4) (el := 32) (sz := 1) Try.func134 (by kernel_rfl) (by kernel_rfl) (by kernel_rfl) (by kernel_rfl) Try.underlying25 (by kernel_rfl), trivial⟩
noncomputable def e0 : Env := ⟨tbl, .lf, ofT [(134, ovlO)]⟩
theorem e0_ok : EnvOk Try.prog e0 := envOk (ol := []) tbl_eq rfl rfl gOk trivial xOk
theorem hasB91 : HasBody Try.prog 91 := ⟨Try.f91, _, Try.func91, rfl, by kernel_rfl⟩
theorem hasB107 : HasBody Try.prog 107 := ⟨Try.f107, _, Try.func107, rfl, by kernel_rfl⟩
theorem hasB161 : HasBody Try.prog 161 := ⟨Try.f161, _, Try.func161, rfl, by kernel_rfl⟩
theorem hasB86 : HasBody Try.prog 86 := ⟨Try.f86, _, Try.func86, rfl, by kernel_rfl⟩
theorem ins_ok : OvOk Try.prog 91 insO := insO_ok (fn := Try.f91) e0_ok mixed rfl rfl (by kernel_rfl) hasB91 (by kernel_rfl)
theorem over_ok : OvOk Try.prog 107 overO := overO_ok e0_ok mixed ⟨rfl, rfl, by kernel_rfl⟩ Try.func107 c107 hasB107
theorem i130 : Inl e0 130 code130 [.cells 2 128, .tmp 3] := ⟨rfl, rfl, by kernel_rfl⟩
theorem i131 : Inl e0 131 code131 [.tmp 4] := ⟨rfl, rfl, by kernel_rfl⟩
theorem take_ok : OvOk Try.prog 86 takeO := takeO_ok e0_ok mixed i130 i131 Try.func86 c86 hasB86
theorem put_ok : OvOk Try.prog 161 putO := putO_ok e0_ok mixed i130 i131 Try.func161 c161 hasB161
noncomputable def e1 : Env := ⟨tbl, ofT [(107, overO), (91, insO)], ofT [(134, ovlO)]⟩
theorem e1_ok : EnvOk Try.prog e1 := envOk tbl_eq rfl rfl gOk ⟨over_ok, ins_ok, trivial⟩ xOk
end Go.AM
