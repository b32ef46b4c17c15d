/-
  Functions of the program as the abstract machine reads them, and what is stated of them, checked by the kernel. No conditions.
-/
import Derived.Test.YtnnbibnobmegpaaSeatEnv
import Derived.Test.YtnnbibnobmegpaaSeatLH
import Derived.Test.YtnnbibnobmegpaaSeatM
import Derived.WalkKit
set_option linter.unusedVariables false
set_option linter.unusedSimpArgs false

set_option maxRecDepth 1000000
namespace Go.AM
open Go.Proofs Go.AM.X
theorem c31 : compF Try.prog Try.f31 = some a31 := by kernel_rfl
theorem c8 : compF Try.prog Try.f8 = some a8 := by kernel_rfl
noncomputable def GL : T AFn := ofT ((31, a31) :: gl)
theorem gOkL : All (GOk Try.prog) ((31, a31) :: gl) := ⟨⟨Try.f31, Try.func31, c31, by kernel_rfl⟩, gOk⟩
theorem hasB78 : HasBody Try.prog 78 := ⟨Try.f78, _, Try.func78, rfl, by kernel_rfl⟩
theorem hasB83 : HasBody Try.prog 83 := ⟨Try.f83, _, Try.func83, rfl, by kernel_rfl⟩
theorem hasB38 : HasBody Try.prog 38 := ⟨Try.f38, _, Try.func38, rfl, by kernel_rfl⟩
theorem hasB53 : HasBody Try.prog 53 := ⟨Try.f53, _, Try.func53, rfl, by kernel_rfl⟩
theorem hasB104 : HasBody Try.prog 104 := ⟨Try.f104, _, Try.func104, rfl, by kernel_rfl⟩
theorem hasB125 : HasBody Try.prog 125 := ⟨Try.f125, _, Try.func125, rfl, by kernel_rfl⟩
theorem hasB123 : HasBody Try.prog 123 := ⟨Try.f123, _, Try.func123, rfl, by kernel_rfl⟩
theorem hasB169 : HasBody Try.prog 169 := ⟨Try.f169, _, Try.func169, rfl, by kernel_rfl⟩
theorem hasB81 : HasBody Try.prog 81 := ⟨Try.f81, _, Try.func81, rfl, by kernel_rfl⟩
theorem hasB79 : HasBody Try.prog 79 := ⟨Try.f79, _, Try.func79, rfl, by kernel_rfl⟩
theorem hasB33 : HasBody Try.prog 33 := ⟨Try.f33, _, Try.func33, rfl, by kernel_rfl⟩
theorem hasB80 : HasBody Try.prog 80 := ⟨Try.f80, _, Try.func80, rfl, by kernel_rfl⟩
theorem hasB35 : HasBody Try.prog 35 := ⟨Try.f35, _, Try.func35, rfl, by kernel_rfl⟩
theorem hasB40 : HasBody Try.prog 40 := ⟨Try.f40, _, Try.func40, rfl, by kernel_rfl⟩
theorem hasB30 : HasBody Try.prog 30 := ⟨Try.f30, _, Try.func30, rfl, by kernel_rfl⟩
theorem hasB8 : HasBody Try.prog 8 := ⟨Try.f8, _, Try.func8, rfl, by kernel_rfl⟩
noncomputable def eL1 : Env := ⟨GL, .lf, ofT [(134, ovlO)]⟩
theorem eL1_ok : EnvOk Try.prog eL1 := envOk (ol := []) rfl rfl rfl gOkL trivial xOk
theorem cfg_ok : OvOk Try.prog 78 cfgF.O := cfgF_ok eL1_ok mixed ⟨rfl, rfl, by kernel_rfl⟩ Try.func78 c78 hasB78
theorem dirty_ok : OvOk Try.prog 125 (ringO anyR dirtyG) := dirtyO_ok eL1_ok mixed Try.func125 c125 hasB125
theorem homes_ok : OvOk Try.prog 123 (ringO anyR homesGv) := homesO_ok eL1_ok mixed ⟨rfl, rfl, by kernel_rfl⟩ Try.func169 c169 hasB169 Try.func123 c123 hasB123
noncomputable def eL2 : Env := ⟨GL, ofT [(78, cfgF.O), (125, (ringO anyR dirtyG)), (123, (ringO anyR homesGv))], ofT [(134, ovlO)]⟩
theorem eL2_ok : EnvOk Try.prog eL2 := envOk rfl rfl rfl gOkL ⟨cfg_ok, dirty_ok, homes_ok, trivial⟩ xOk
theorem told_ok : OvOk Try.prog 83 toldF.O := toldF_ok eL2_ok mixed ⟨rfl, rfl⟩ Try.func83 c83 hasB83
noncomputable def eL3 : Env := ⟨GL, ofT [(78, cfgF.O), (125, (ringO anyR dirtyG)), (123, (ringO anyR homesGv)), (83, toldF.O)], ofT [(134, ovlO)]⟩
theorem eL3_ok : EnvOk Try.prog eL3 := envOk rfl rfl rfl gOkL ⟨cfg_ok, dirty_ok, homes_ok, told_ok, trivial⟩ xOk
theorem stripes_ok : OvOk Try.prog 38 stripesF.O := stripesF_ok eL3_ok mixed ⟨rfl, rfl⟩ Try.func38 c38 hasB38
theorem need_ok : OvOk Try.prog 53 needF.O := needF_ok eL3_ok mixed ⟨rfl, rfl⟩ Try.func53 c53 hasB53
theorem journal_ok : OvOk Try.prog 104 journalF.O := journalF_ok eL3_ok mixed ⟨rfl, rfl⟩ Try.func104 c104 hasB104
noncomputable def eL4 : Env := ⟨GL, ofT [(78, cfgF.O), (125, (ringO anyR dirtyG)), (123, (ringO anyR homesGv)), (83, toldF.O), (38, stripesF.O), (53, needF.O), (104, journalF.O)], ofT [(134, ovlO)]⟩
theorem eL4_ok : EnvOk Try.prog eL4 := envOk rfl rfl rfl gOkL ⟨cfg_ok, dirty_ok, homes_ok, told_ok, stripes_ok, need_ok, journal_ok, trivial⟩ xOk
theorem room_ok : OvOk Try.prog 81 (ringO mayR (fun r => .bool (roomB r))) := roomO_ok eL4_ok mixed ⟨rfl, rfl⟩ ⟨rfl, rfl⟩ Try.func81 c81 hasB81
noncomputable def eL5 : Env := ⟨GL, ofT [(78, cfgF.O), (125, (ringO anyR dirtyG)), (123, (ringO anyR homesGv)), (83, toldF.O), (38, stripesF.O), (53, needF.O), (104, journalF.O), (81, (ringO mayR (fun r => .bool (roomB r))))], ofT [(134, ovlO)]⟩
theorem eL5_ok : EnvOk Try.prog eL5 := envOk rfl rfl rfl gOkL ⟨cfg_ok, dirty_ok, homes_ok, told_ok, stripes_ok, need_ok, journal_ok, room_ok, trivial⟩ xOk
theorem right_ok : OvOk Try.prog 79 (ringO mayR (fun r => .bool (rightB r))) := rightO_ok eL5_ok mixed ⟨rfl, rfl⟩ ⟨rfl, rfl⟩ ⟨rfl, rfl, by kernel_rfl⟩ ⟨rfl, rfl⟩ ⟨rfl, rfl⟩ Try.func79 c79 hasB79
noncomputable def eL6 : Env := ⟨GL, ofT [(78, cfgF.O), (125, (ringO anyR dirtyG)), (123, (ringO anyR homesGv)), (83, toldF.O), (38, stripesF.O), (53, needF.O), (104, journalF.O), (81, (ringO mayR (fun r => .bool (roomB r)))), (79, (ringO mayR (fun r => .bool (rightB r))))], ofT [(134, ovlO)]⟩
theorem eL6_ok : EnvOk Try.prog eL6 := envOk rfl rfl rfl gOkL ⟨cfg_ok, dirty_ok, homes_ok, told_ok, stripes_ok, need_ok, journal_ok, room_ok, right_ok, trivial⟩ xOk
theorem lchk_ok : OvOk Try.prog 33 lchkF.O := lchkF_ok eL6_ok mixed ⟨rfl, rfl⟩ ⟨rfl, rfl⟩ Try.func33 c33 hasB33
noncomputable def eL7 : Env := ⟨GL, ofT [(78, cfgF.O), (125, (ringO anyR dirtyG)), (123, (ringO anyR homesGv)), (83, toldF.O), (38, stripesF.O), (53, needF.O), (104, journalF.O), (81, (ringO mayR (fun r => .bool (roomB r)))), (79, (ringO mayR (fun r => .bool (rightB r)))), (33, lchkF.O)], ofT [(134, ovlO)]⟩
theorem eL7_ok : EnvOk Try.prog eL7 := envOk rfl rfl rfl gOkL ⟨cfg_ok, dirty_ok, homes_ok, told_ok, stripes_ok, need_ok, journal_ok, room_ok, right_ok, lchk_ok, trivial⟩ xOk
theorem on_ok : OvOk Try.prog 80 onO := onO_ok eL7_ok mixed ⟨rfl, rfl⟩ ⟨rfl, rfl, by kernel_rfl⟩ ⟨rfl, rfl, by kernel_rfl⟩ Try.func80 c80 hasB80
noncomputable def eL8 : Env := ⟨GL, ofT [(78, cfgF.O), (125, (ringO anyR dirtyG)), (123, (ringO anyR homesGv)), (83, toldF.O), (38, stripesF.O), (53, needF.O), (104, journalF.O), (81, (ringO mayR (fun r => .bool (roomB r)))), (79, (ringO mayR (fun r => .bool (rightB r)))), (33, lchkF.O), (80, onO)], ofT [(134, ovlO)]⟩
theorem eL8_ok : EnvOk Try.prog eL8 := envOk rfl rfl rfl gOkL ⟨cfg_ok, dirty_ok, homes_ok, told_ok, stripes_ok, need_ok, journal_ok, room_ok, right_ok, lchk_ok, on_ok, trivial⟩ xOk
theorem dialon_ok : OvOk Try.prog 35 onF.O := onF_ok eL8_ok mixed ⟨rfl, rfl, by kernel_rfl⟩ ⟨rfl, rfl, by kernel_rfl⟩ Try.func35 c35 hasB35
theorem wr_ok2 : OvOk Try.prog 84 wrF.O := wr_ok
noncomputable def eL9 : Env := ⟨GL, ofT [(78, cfgF.O), (125, (ringO anyR dirtyG)), (123, (ringO anyR homesGv)), (83, toldF.O), (38, stripesF.O), (53, needF.O), (104, journalF.O), (81, (ringO mayR (fun r => .bool (roomB r)))), (79, (ringO mayR (fun r => .bool (rightB r)))), (33, lchkF.O), (80, onO), (35, onF.O), (84, wrF.O)], ofT [(134, ovlO)]⟩
theorem eL9_ok : EnvOk Try.prog eL9 := envOk rfl rfl rfl gOkL ⟨cfg_ok, dirty_ok, homes_ok, told_ok, stripes_ok, need_ok, journal_ok, room_ok, right_ok, lchk_ok, on_ok, dialon_ok, wr_ok2, trivial⟩ xOk
theorem move_ok : OvOk Try.prog 40 moveF.O := moveF_ok eL9_ok mixed ⟨rfl, rfl⟩ ⟨rfl, rfl⟩ ⟨rfl, rfl⟩ ⟨rfl, rfl, by kernel_rfl⟩ Try.func40 c40 hasB40
theorem read_ok2 : OvOk Try.prog 41 readO := read_ok
theorem runAlive14 : isTrue (callA e1 (exec e1 100000) 30 [] St0) = true := by kernel_rfl
theorem alive_ok : OvOk Try.prog 30 trueO := trueO_ok e1_ok mixed hasB30 runAlive14
noncomputable def eL10 : Env := ⟨GL, ofT [(78, cfgF.O), (125, (ringO anyR dirtyG)), (123, (ringO anyR homesGv)), (83, toldF.O), (38, stripesF.O), (53, needF.O), (104, journalF.O), (81, (ringO mayR (fun r => .bool (roomB r)))), (79, (ringO mayR (fun r => .bool (rightB r)))), (33, lchkF.O), (80, onO), (35, onF.O), (84, wrF.O), (40, moveF.O), (41, readO), (30, trueO)], ofT [(134, ovlO)]⟩
theorem eL10_ok : EnvOk Try.prog eL10 := envOk rfl rfl rfl gOkL ⟨cfg_ok, dirty_ok, homes_ok, told_ok, stripes_ok, need_ok, journal_ok, room_ok, right_ok, lchk_ok, on_ok, dialon_ok, wr_ok2, move_ok, read_ok2, alive_ok, trivial⟩ xOk
theorem lmIn : LMIn eL10 := ⟨⟨rfl, rfl⟩, ⟨rfl, rfl, by kernel_rfl⟩, ⟨rfl, rfl⟩, ⟨rfl, rfl⟩, ⟨rfl, rfl⟩⟩
theorem logMoves_C (c : Cfg) (ag sq tl us : Int) (L : List Lv) (v : AV) (hc : c.ok) (h1 : u32B ag) (h2 : u32B sq) (h3 : i64B tl) (h4 : i64B us) (hv : LSl L v) (hL : ∀ x ∈ L, x.ok) :
    C Try.prog 8 [c.v, .agg [.int .u32 ag, .int .u32 sq, .int .i64 tl, .int .i64 us, v]] St0 (fun u _ => u = .bool true) :=
  C.of_V eL10_ok mixed Try.func8 c8 (moves_law Try.prog eL10 eL10_ok mixed lmIn c ag sq tl us L v hv (fun hl => ⟨hc, ⟨h1, h2, h3, h4, hL, hl⟩, hv⟩))
end Go.AM
