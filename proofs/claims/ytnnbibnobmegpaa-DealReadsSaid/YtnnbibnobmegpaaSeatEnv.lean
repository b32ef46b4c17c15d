/-
 Functions of the program as the abstract machine reads them, and what is stated of them, checked by the kernel. No conditions.
-/
import Derived.Test.YtnnbibnobmegpaaSeatC
import Derived.Test.YtnnbibnobmegpaaSeatS
import Derived.WalkKit
set_option linter.unusedVariables false
set_option linter.unusedSimpArgs false
set_option maxRecDepth 1000000
namespace Go.AM
open Go.Proofs Go.AM.X
theorem mixed : Try.prog.follows .mixedOrders = true := by kernel_rfl
theorem tbl_eq : tbl = ofT gl := by kernel_rfl
theorem gOk : All (GOk Try.prog) gl := by
 exact ⟨⟨Try.f86, Try.func86, c86, by kernel_rfl⟩, ⟨Try.f107, Try.func107, c107, by kernel_rfl⟩, ⟨Try.f130, Try.func130, c130, by kernel_rfl⟩, ⟨Try.f131, Try.func131, c131, by kernel_rfl⟩, ⟨Try.f147, Try.func147, c147, by kernel_rfl⟩, ⟨Try.f161, Try.func161, c161, by kernel_rfl⟩, trivial⟩
theorem xOk : All (XOk Try.prog) [(134, ovlO)] :=
 ⟨ovlO_ok (tS := 25) (tR := 4) (el := 32) (sz := 1) Try.func134 (by kernel_rfl) (by kernel_rfl) (by kernel_rfl) (by kernel_rfl) Try.underlying25 (by kernel_rfl), trivial⟩
noncomputable def e0 : Env := ⟨tbl, .lf, ofT [(134, ovlO)]⟩
theorem e0_ok : EnvOk Try.prog e0 := envOk (ol := []) tbl_eq rfl rfl gOk trivial xOk
theorem hasB107 : HasBody Try.prog 107 := ⟨Try.f107, _, Try.func107, rfl, by kernel_rfl⟩
theorem hasB161 : HasBody Try.prog 161 := ⟨Try.f161, _, Try.func161, rfl, by kernel_rfl⟩
theorem hasB86 : HasBody Try.prog 86 := ⟨Try.f86, _, Try.func86, rfl, by kernel_rfl⟩
theorem over_ok : OvOk Try.prog 107 overO := overO_ok e0_ok mixed ⟨rfl, rfl, by kernel_rfl⟩ Try.func107 c107 hasB107
theorem i130 : Inl e0 130 code130 [.cells 2 128, .tmp 3] := ⟨rfl, rfl, by kernel_rfl⟩
theorem i131 : Inl e0 131 code131 [.tmp 4] := ⟨rfl, rfl, by kernel_rfl⟩
theorem take_ok : OvOk Try.prog 86 takeO := takeO_ok e0_ok mixed i130 i131 Try.func86 c86 hasB86
theorem put_ok : OvOk Try.prog 161 putO := putO_ok e0_ok mixed i130 i131 Try.func161 c161 hasB161
end Go.AM
