/-
  Functions of the program as the abstract machine reads them, and what is stated of them, checked by the kernel. No conditions.
-/
import Derived.Test.YtnnbibnobmegpaaSeatEnv
import Derived.Test.YtnnbibnobmegpaaSeatP
import Derived.WalkKit
set_option linter.unusedVariables false
set_option linter.unusedSimpArgs false

set_option maxRecDepth 1000000
namespace Go.AM
open Go.Proofs Go.AM.X
theorem c13 : compF Try.prog Try.f13 = some a13 := by kernel_rfl
theorem c32 : compF Try.prog Try.f32 = some a32 := by kernel_rfl
noncomputable def GL : T AFn := ofT ([(13, a13), (32, a32)] ++ gl)
theorem gOkL : All (GOk Try.prog) ([(13, a13), (32, a32)] ++ gl) := ⟨⟨Try.f13, Try.func13, c13, by kernel_rfl⟩, ⟨Try.f32, Try.func32, c32, by kernel_rfl⟩, gOk⟩
theorem hasB13 : HasBody Try.prog 13 := ⟨Try.f13, _, Try.func13, rfl, by kernel_rfl⟩
theorem hasB32 : HasBody Try.prog 32 := ⟨Try.f32, _, Try.func32, rfl, by kernel_rfl⟩
theorem hasB38 : HasBody Try.prog 38 := ⟨Try.f38, _, Try.func38, rfl, by kernel_rfl⟩
theorem hasB47 : HasBody Try.prog 47 := ⟨Try.f47, _, Try.func47, rfl, by kernel_rfl⟩
theorem hasB48 : HasBody Try.prog 48 := ⟨Try.f48, _, Try.func48, rfl, by kernel_rfl⟩
theorem hasB50 : HasBody Try.prog 50 := ⟨Try.f50, _, Try.func50, rfl, by kernel_rfl⟩
theorem hasB52 : HasBody Try.prog 52 := ⟨Try.f52, _, Try.func52, rfl, by kernel_rfl⟩
theorem hasB78 : HasBody Try.prog 78 := ⟨Try.f78, _, Try.func78, rfl, by kernel_rfl⟩
theorem hasB83 : HasBody Try.prog 83 := ⟨Try.f83, _, Try.func83, rfl, by kernel_rfl⟩
theorem hasB90 : HasBody Try.prog 90 := ⟨Try.f90, _, Try.func90, rfl, by kernel_rfl⟩
theorem hasB94 : HasBody Try.prog 94 := ⟨Try.f94, _, Try.func94, rfl, by kernel_rfl⟩
theorem hasB95 : HasBody Try.prog 95 := ⟨Try.f95, _, Try.func95, rfl, by kernel_rfl⟩
theorem hasB132 : HasBody Try.prog 132 := ⟨Try.f132, _, Try.func132, rfl, by kernel_rfl⟩
theorem hasB138 : HasBody Try.prog 138 := ⟨Try.f138, _, Try.func138, rfl, by kernel_rfl⟩
theorem hasB142 : HasBody Try.prog 142 := ⟨Try.f142, _, Try.func142, rfl, by kernel_rfl⟩
theorem runAlive13 : isTrue (callA e1 (exec e1 100000) 47 [] St0) = true := by kernel_rfl
noncomputable def eL1 : Env := ⟨GL, .lf, ofT [(134, ovlO)]⟩
theorem eL1_ok : EnvOk Try.prog eL1 := envOk (ol := []) rfl rfl rfl gOkL trivial xOk
theorem alive13_ov : OvOk Try.prog 47 trueO := trueO_ok e1_ok mixed hasB47 runAlive13
theorem grt_ov : OvOk Try.prog 32 grtF.O := grtF_ok eL1_ok mixed  Try.func32 c32 hasB32
theorem cfg_ov : OvOk Try.prog 78 cfgF.O := cfgF_ok eL1_ok mixed ⟨rfl, rfl, by kernel_rfl⟩ Try.func78 c78 hasB78
noncomputable def eL2 : Env := ⟨GL, ofT [(47, trueO), (32, grtF.O), (78, cfgF.O)], ofT [(134, ovlO)]⟩
theorem eL2_ok : EnvOk Try.prog eL2 := envOk rfl rfl rfl gOkL ⟨alive13_ov, grt_ov, cfg_ov, trivial⟩ xOk
theorem told_ov : OvOk Try.prog 83 toldF.O := toldF_ok eL2_ok mixed ⟨rfl, rfl⟩ Try.func83 c83 hasB83
noncomputable def eL3 : Env := ⟨GL, ofT [(47, trueO), (32, grtF.O), (78, cfgF.O), (83, toldF.O)], ofT [(134, ovlO)]⟩
theorem eL3_ok : EnvOk Try.prog eL3 := envOk rfl rfl rfl gOkL ⟨alive13_ov, grt_ov, cfg_ov, told_ov, trivial⟩ xOk
theorem stripes_ov : OvOk Try.prog 38 stripesF.O := stripesF_ok eL3_ok mixed ⟨rfl, rfl⟩ Try.func38 c38 hasB38
theorem odd94_ov : OvOk Try.prog 94 oddF.O := oddF94_ok eL3_ok mixed  Try.func94 c94 hasB94
noncomputable def eL4 : Env := ⟨GL, ofT [(47, trueO), (32, grtF.O), (78, cfgF.O), (83, toldF.O), (38, stripesF.O), (94, oddF.O)], ofT [(134, ovlO)]⟩
theorem eL4_ok : EnvOk Try.prog eL4 := envOk rfl rfl rfl gOkL ⟨alive13_ov, grt_ov, cfg_ov, told_ov, stripes_ov, odd94_ov, trivial⟩ xOk
theorem idx94_ov : OvOk Try.prog 138 (idxF 94).O := idxF_ok eL4_ok mixed 94 ⟨rfl, rfl⟩ Try.func138 c138 hasB138
theorem slots_ov : OvOk Try.prog 95 slotsF.O := slotsF_ok eL4_ok mixed  Try.func95 c95 hasB95
noncomputable def eL5 : Env := ⟨GL, ofT [(47, trueO), (32, grtF.O), (78, cfgF.O), (83, toldF.O), (38, stripesF.O), (94, oddF.O), (138, (idxF 94).O), (95, slotsF.O)], ofT [(134, ovlO)]⟩
theorem eL5_ok : EnvOk Try.prog eL5 := envOk rfl rfl rfl gOkL ⟨alive13_ov, grt_ov, cfg_ov, told_ov, stripes_ov, odd94_ov, idx94_ov, slots_ov, trivial⟩ xOk
theorem dchk_ov : OvOk Try.prog 50 dchkF.O := dchkF_ok eL5_ok mixed ⟨rfl, rfl⟩ ⟨rfl, rfl, by kernel_rfl⟩ ⟨rfl, rfl⟩ ⟨rfl, rfl⟩ Try.func50 c50 hasB50
theorem over2_ov : OvOk Try.prog 107 overO := over_ok
theorem nchk_ov : OvOk Try.prog 132 nchkF.O := nchkF_ok eL5_ok mixed  Try.func132 c132 hasB132
theorem put2_ov : OvOk Try.prog 161 putO := put_ok
noncomputable def eL6 : Env := ⟨GL, ofT [(47, trueO), (32, grtF.O), (78, cfgF.O), (83, toldF.O), (38, stripesF.O), (94, oddF.O), (138, (idxF 94).O), (95, slotsF.O), (50, dchkF.O), (107, overO), (132, nchkF.O), (161, putO)], ofT [(134, ovlO)]⟩
theorem eL6_ok : EnvOk Try.prog eL6 := envOk rfl rfl rfl gOkL ⟨alive13_ov, grt_ov, cfg_ov, told_ov, stripes_ov, odd94_ov, idx94_ov, slots_ov, dchk_ov, over2_ov, nchk_ov, put2_ov, trivial⟩ xOk
theorem nw_ov : OvOk Try.prog 90 nwF.O := nwF_ok eL6_ok mixed ⟨rfl, rfl⟩ ⟨rfl, rfl, by kernel_rfl⟩ ⟨rfl, rfl⟩ ⟨rfl, rfl, by kernel_rfl⟩ ⟨rfl, rfl, by kernel_rfl⟩ ⟨rfl, rfl⟩ Try.func142 c142 hasB142 Try.func90 c90 hasB90
theorem ins2_ov : OvOk Try.prog 91 insO := ins_ok
noncomputable def eL7 : Env := ⟨GL, ofT [(47, trueO), (32, grtF.O), (78, cfgF.O), (83, toldF.O), (38, stripesF.O), (94, oddF.O), (138, (idxF 94).O), (95, slotsF.O), (50, dchkF.O), (107, overO), (132, nchkF.O), (161, putO), (90, nwF.O), (91, insO)], ofT [(134, ovlO)]⟩
theorem eL7_ok : EnvOk Try.prog eL7 := envOk rfl rfl rfl gOkL ⟨alive13_ov, grt_ov, cfg_ov, told_ov, stripes_ov, odd94_ov, idx94_ov, slots_ov, dchk_ov, over2_ov, nchk_ov, put2_ov, nw_ov, ins2_ov, trivial⟩ xOk
theorem blk_ov : OvOk Try.prog 48 blkF.O := blkF_ok eL7_ok mixed ⟨rfl, rfl⟩ ⟨rfl, rfl, by kernel_rfl⟩ ⟨rfl, rfl, by kernel_rfl⟩ ⟨rfl, rfl, by kernel_rfl⟩ ⟨rfl, rfl⟩ ⟨rfl, rfl⟩ ⟨rfl, rfl⟩ Try.func48 c48 hasB48
theorem take2_ov : OvOk Try.prog 86 takeO := take_ok
noncomputable def eL8 : Env := ⟨GL, ofT [(47, trueO), (32, grtF.O), (78, cfgF.O), (83, toldF.O), (38, stripesF.O), (94, oddF.O), (138, (idxF 94).O), (95, slotsF.O), (50, dchkF.O), (107, overO), (132, nchkF.O), (161, putO), (90, nwF.O), (91, insO), (48, blkF.O), (86, takeO)], ofT [(134, ovlO)]⟩
theorem eL8_ok : EnvOk Try.prog eL8 := envOk rfl rfl rfl gOkL ⟨alive13_ov, grt_ov, cfg_ov, told_ov, stripes_ov, odd94_ov, idx94_ov, slots_ov, dchk_ov, over2_ov, nchk_ov, put2_ov, nw_ov, ins2_ov, blk_ov, take2_ov, trivial⟩ xOk
theorem nd_ov : OvOk Try.prog 52 ndF.O := ndF_ok eL8_ok mixed ⟨rfl, rfl⟩ ⟨rfl, rfl, by kernel_rfl⟩ ⟨rfl, rfl, by kernel_rfl⟩ ⟨rfl, rfl⟩ Try.func142 c142 hasB142 Try.func52 c52 hasB52
noncomputable def eL9 : Env := ⟨GL, ofT [(47, trueO), (32, grtF.O), (78, cfgF.O), (83, toldF.O), (38, stripesF.O), (94, oddF.O), (138, (idxF 94).O), (95, slotsF.O), (50, dchkF.O), (107, overO), (132, nchkF.O), (161, putO), (90, nwF.O), (91, insO), (48, blkF.O), (86, takeO), (52, ndF.O)], ofT [(134, ovlO)]⟩
theorem eL9_ok : EnvOk Try.prog eL9 := envOk rfl rfl rfl gOkL ⟨alive13_ov, grt_ov, cfg_ov, told_ov, stripes_ov, odd94_ov, idx94_ov, slots_ov, dchk_ov, over2_ov, nchk_ov, put2_ov, nw_ov, ins2_ov, blk_ov, take2_ov, nd_ov, trivial⟩ xOk
theorem inDealMarks : DMIn eL9 := ⟨⟨rfl, rfl⟩, ⟨rfl, rfl⟩, ⟨rfl, rfl⟩, ⟨rfl, rfl⟩⟩
theorem dealMarks_C (c : Cfg) (ag sq : Int) (d : DB) (hc : c.ok) (h1 : u32B ag) (h2 : u32B sq) (hd : d.any) :
    C Try.prog 13 [c.v, .int .u32 ag, .int .u32 sq, d.d.v] St0 (fun u _ => u = .bool true) :=
  C.of_V eL9_ok mixed Try.func13 c13 (marks_law Try.prog eL9 eL9_ok mixed inDealMarks c hc ag sq h1 h2 d hd)
end Go.AM
