/-
 Functions of the program as the abstract machine reads them, and what is stated of them, checked by the kernel. No conditions.
-/
import Derived.Test.YtnnbibnobmegpaaSeatEnv
import Derived.Test.YtnnbibnobmegpaaSeatP
import Derived.Test.YtnnbibnobmegpaaSeatQ
import Derived.Test.YtnnbibnobmegpaaSeatX
import Derived.WalkKit
set_option linter.unusedVariables false
set_option linter.unusedSimpArgs false

set_option maxRecDepth 1000000
namespace Go.AM
open Go.Proofs Go.AM.X
theorem c11 : compF Try.prog Try.f11 = some a11 := by kernel_rfl
theorem c21 : compF Try.prog Try.f21 = some a21 := by kernel_rfl
theorem c32 : compF Try.prog Try.f32 = some a32 := by kernel_rfl
noncomputable def GL : T AFn := ofT ([(11, a11), (21, a21), (32, a32)] ++ gl)
theorem gOkL : All (GOk Try.prog) ([(11, a11), (21, a21), (32, a32)] ++ gl) := ⟨⟨Try.f11, Try.func11, c11, by kernel_rfl⟩, ⟨Try.f21, Try.func21, c21, by kernel_rfl⟩, ⟨Try.f32, Try.func32, c32, by kernel_rfl⟩, gOk⟩
theorem hasB11 : HasBody Try.prog 11 := ⟨Try.f11, _, Try.func11, rfl, by kernel_rfl⟩
theorem hasB21 : HasBody Try.prog 21 := ⟨Try.f21, _, Try.func21, rfl, by kernel_rfl⟩
theorem hasB23 : HasBody Try.prog 23 := ⟨Try.f23, _, Try.func23, rfl, by kernel_rfl⟩
theorem hasB32 : HasBody Try.prog 32 := ⟨Try.f32, _, Try.func32, rfl, by kernel_rfl⟩
theorem hasB35 : HasBody Try.prog 35 := ⟨Try.f35, _, Try.func35, rfl, by kernel_rfl⟩
theorem hasB38 : HasBody Try.prog 38 := ⟨Try.f38, _, Try.func38, rfl, by kernel_rfl⟩
theorem hasB47 : HasBody Try.prog 47 := ⟨Try.f47, _, Try.func47, rfl, by kernel_rfl⟩
theorem hasB48 : HasBody Try.prog 48 := ⟨Try.f48, _, Try.func48, rfl, by kernel_rfl⟩
theorem hasB49 : HasBody Try.prog 49 := ⟨Try.f49, _, Try.func49, rfl, by kernel_rfl⟩
theorem hasB50 : HasBody Try.prog 50 := ⟨Try.f50, _, Try.func50, rfl, by kernel_rfl⟩
theorem hasB51 : HasBody Try.prog 51 := ⟨Try.f51, _, Try.func51, rfl, by kernel_rfl⟩
theorem hasB52 : HasBody Try.prog 52 := ⟨Try.f52, _, Try.func52, rfl, by kernel_rfl⟩
theorem hasB65 : HasBody Try.prog 65 := ⟨Try.f65, _, Try.func65, rfl, by kernel_rfl⟩
theorem hasB78 : HasBody Try.prog 78 := ⟨Try.f78, _, Try.func78, rfl, by kernel_rfl⟩
theorem hasB83 : HasBody Try.prog 83 := ⟨Try.f83, _, Try.func83, rfl, by kernel_rfl⟩
theorem hasB90 : HasBody Try.prog 90 := ⟨Try.f90, _, Try.func90, rfl, by kernel_rfl⟩
theorem hasB92 : HasBody Try.prog 92 := ⟨Try.f92, _, Try.func92, rfl, by kernel_rfl⟩
theorem hasB94 : HasBody Try.prog 94 := ⟨Try.f94, _, Try.func94, rfl, by kernel_rfl⟩
theorem hasB95 : HasBody Try.prog 95 := ⟨Try.f95, _, Try.func95, rfl, by kernel_rfl⟩
theorem hasB101 : HasBody Try.prog 101 := ⟨Try.f101, _, Try.func101, rfl, by kernel_rfl⟩
theorem hasB102 : HasBody Try.prog 102 := ⟨Try.f102, _, Try.func102, rfl, by kernel_rfl⟩
theorem hasB103 : HasBody Try.prog 103 := ⟨Try.f103, _, Try.func103, rfl, by kernel_rfl⟩
theorem hasB104 : HasBody Try.prog 104 := ⟨Try.f104, _, Try.func104, rfl, by kernel_rfl⟩
theorem hasB106 : HasBody Try.prog 106 := ⟨Try.f106, _, Try.func106, rfl, by kernel_rfl⟩
theorem hasB132 : HasBody Try.prog 132 := ⟨Try.f132, _, Try.func132, rfl, by kernel_rfl⟩
theorem hasB136 : HasBody Try.prog 136 := ⟨Try.f136, _, Try.func136, rfl, by kernel_rfl⟩
theorem hasB138 : HasBody Try.prog 138 := ⟨Try.f138, _, Try.func138, rfl, by kernel_rfl⟩
theorem hasB139 : HasBody Try.prog 139 := ⟨Try.f139, _, Try.func139, rfl, by kernel_rfl⟩
theorem hasB140 : HasBody Try.prog 140 := ⟨Try.f140, _, Try.func140, rfl, by kernel_rfl⟩
theorem hasB142 : HasBody Try.prog 142 := ⟨Try.f142, _, Try.func142, rfl, by kernel_rfl⟩
theorem hasB143 : HasBody Try.prog 143 := ⟨Try.f143, _, Try.func143, rfl, by kernel_rfl⟩
theorem hasB163 : HasBody Try.prog 163 := ⟨Try.f163, _, Try.func163, rfl, by kernel_rfl⟩
theorem runAlive13 : isTrue (callA e1 (exec e1 100000) 47 [] St0) = true := by kernel_rfl
noncomputable def eL1 : Env := ⟨GL, .lf, ofT [(134, ovlO)]⟩
theorem eL1_ok : EnvOk Try.prog eL1 := envOk (ol := []) rfl rfl rfl gOkL trivial xOk
theorem cfg_ov : OvOk Try.prog 78 cfgF.O := cfgF_ok eL1_ok mixed ⟨rfl, rfl, by kernel_rfl⟩ Try.func78 c78 hasB78
noncomputable def eL2 : Env := ⟨GL, ofT [(78, cfgF.O)], ofT [(134, ovlO)]⟩
theorem eL2_ok : EnvOk Try.prog eL2 := envOk rfl rfl rfl gOkL ⟨cfg_ov, trivial⟩ xOk
theorem told_ov : OvOk Try.prog 83 toldF.O := toldF_ok eL2_ok mixed ⟨rfl, rfl⟩ Try.func83 c83 hasB83
noncomputable def eL3 : Env := ⟨GL, ofT [(78, cfgF.O), (83, toldF.O)], ofT [(134, ovlO)]⟩
theorem eL3_ok : EnvOk Try.prog eL3 := envOk rfl rfl rfl gOkL ⟨cfg_ov, told_ov, trivial⟩ xOk
theorem stripes_ov : OvOk Try.prog 38 stripesF.O := stripesF_ok eL3_ok mixed ⟨rfl, rfl⟩ Try.func38 c38 hasB38
theorem odd94_ov : OvOk Try.prog 94 oddF.O := oddF94_ok eL3_ok mixed  Try.func94 c94 hasB94
noncomputable def eL4 : Env := ⟨GL, ofT [(78, cfgF.O), (83, toldF.O), (38, stripesF.O), (94, oddF.O)], ofT [(134, ovlO)]⟩
theorem eL4_ok : EnvOk Try.prog eL4 := envOk rfl rfl rfl gOkL ⟨cfg_ov, told_ov, stripes_ov, odd94_ov, trivial⟩ xOk
theorem idx94_ov : OvOk Try.prog 138 (idxF 94).O := idxF_ok eL4_ok mixed 94 ⟨rfl, rfl⟩ Try.func138 c138 hasB138
theorem slots_ov : OvOk Try.prog 95 slotsF.O := slotsF_ok eL4_ok mixed  Try.func95 c95 hasB95
noncomputable def eL5 : Env := ⟨GL, ofT [(78, cfgF.O), (83, toldF.O), (38, stripesF.O), (94, oddF.O), (138, (idxF 94).O), (95, slotsF.O)], ofT [(134, ovlO)]⟩
theorem eL5_ok : EnvOk Try.prog eL5 := envOk rfl rfl rfl gOkL ⟨cfg_ov, told_ov, stripes_ov, odd94_ov, idx94_ov, slots_ov, trivial⟩ xOk
theorem dchk_ov : OvOk Try.prog 50 dchkF.O := dchkF_ok eL5_ok mixed ⟨rfl, rfl⟩ ⟨rfl, rfl, by kernel_rfl⟩ ⟨rfl, rfl⟩ ⟨rfl, rfl⟩ Try.func50 c50 hasB50
theorem over2_ov : OvOk Try.prog 107 overO := over_ok
theorem nchk_ov : OvOk Try.prog 132 nchkF.O := nchkF_ok eL5_ok mixed  Try.func132 c132 hasB132
theorem put2_ov : OvOk Try.prog 161 putO := put_ok
noncomputable def eL6 : Env := ⟨GL, ofT [(78, cfgF.O), (83, toldF.O), (38, stripesF.O), (94, oddF.O), (138, (idxF 94).O), (95, slotsF.O), (50, dchkF.O), (107, overO), (132, nchkF.O), (161, putO)], ofT [(134, ovlO)]⟩
theorem eL6_ok : EnvOk Try.prog eL6 := envOk rfl rfl rfl gOkL ⟨cfg_ov, told_ov, stripes_ov, odd94_ov, idx94_ov, slots_ov, dchk_ov, over2_ov, nchk_ov, put2_ov, trivial⟩ xOk
theorem nw_ov : OvOk Try.prog 90 nwF.O := nwF_ok eL6_ok mixed ⟨rfl, rfl⟩ ⟨rfl, rfl, by kernel_rfl⟩ ⟨rfl, rfl⟩ ⟨rfl, rfl, by kernel_rfl⟩ ⟨rfl, rfl, by kernel_rfl⟩ ⟨rfl, rfl⟩ Try.func142 c142 hasB142 Try.func90 c90 hasB90
theorem ins2_ov : OvOk Try.prog 91 insO := ins_ok
noncomputable def eL7 : Env := ⟨GL, ofT [(78, cfgF.O), (83, toldF.O), (38, stripesF.O), (94, oddF.O), (138, (idxF 94).O), (95, slotsF.O), (50, dchkF.O), (107, overO), (132, nchkF.O), (161, putO), (90, nwF.O), (91, insO)], ofT [(134, ovlO)]⟩
theorem eL7_ok : EnvOk Try.prog eL7 := envOk rfl rfl rfl gOkL ⟨cfg_ov, told_ov, stripes_ov, odd94_ov, idx94_ov, slots_ov, dchk_ov, over2_ov, nchk_ov, put2_ov, nw_ov, ins2_ov, trivial⟩ xOk
theorem blk_ov : OvOk Try.prog 48 blkF.O := blkF_ok2 eL7_ok mixed ⟨rfl, rfl⟩ ⟨rfl, rfl, by kernel_rfl⟩ ⟨rfl, rfl, by kernel_rfl⟩ ⟨rfl, rfl, by kernel_rfl⟩ ⟨rfl, rfl⟩ ⟨rfl, rfl⟩ ⟨rfl, rfl⟩ Try.func48 c48 hasB48
theorem dialon_ov : OvOk Try.prog 35 onF.O := onF_ok eL7_ok mixed ⟨rfl, rfl, by kernel_rfl⟩ ⟨rfl, rfl, by kernel_rfl⟩ Try.func35 c35 hasB35
theorem take2_ov : OvOk Try.prog 86 takeO := take_ok
noncomputable def eL8 : Env := ⟨GL, ofT [(78, cfgF.O), (83, toldF.O), (38, stripesF.O), (94, oddF.O), (138, (idxF 94).O), (95, slotsF.O), (50, dchkF.O), (107, overO), (132, nchkF.O), (161, putO), (90, nwF.O), (91, insO), (48, blkF.O), (35, onF.O), (86, takeO)], ofT [(134, ovlO)]⟩
theorem eL8_ok : EnvOk Try.prog eL8 := envOk rfl rfl rfl gOkL ⟨cfg_ov, told_ov, stripes_ov, odd94_ov, idx94_ov, slots_ov, dchk_ov, over2_ov, nchk_ov, put2_ov, nw_ov, ins2_ov, blk_ov, dialon_ov, take2_ov, trivial⟩ xOk
theorem nd_ov : OvOk Try.prog 52 ndF.O := ndF_ok eL8_ok mixed ⟨rfl, rfl⟩ ⟨rfl, rfl, by kernel_rfl⟩ ⟨rfl, rfl, by kernel_rfl⟩ ⟨rfl, rfl⟩ Try.func142 c142 hasB142 Try.func52 c52 hasB52
theorem odd143_ov : OvOk Try.prog 143 oddF.O := oddF143_ok eL8_ok mixed  Try.func143 c143 hasB143
noncomputable def eL9 : Env := ⟨GL, ofT [(78, cfgF.O), (83, toldF.O), (38, stripesF.O), (94, oddF.O), (138, (idxF 94).O), (95, slotsF.O), (50, dchkF.O), (107, overO), (132, nchkF.O), (161, putO), (90, nwF.O), (91, insO), (48, blkF.O), (35, onF.O), (86, takeO), (52, ndF.O), (143, oddF.O)], ofT [(134, ovlO)]⟩
theorem eL9_ok : EnvOk Try.prog eL9 := envOk rfl rfl rfl gOkL ⟨cfg_ov, told_ov, stripes_ov, odd94_ov, idx94_ov, slots_ov, dchk_ov, over2_ov, nchk_ov, put2_ov, nw_ov, ins2_ov, blk_ov, dialon_ov, take2_ov, nd_ov, odd143_ov, trivial⟩ xOk
theorem dski_ov : OvOk Try.prog 138 dskI := dskI_ok eL9_ok mixed ⟨rfl, rfl⟩ ⟨rfl, rfl, by kernel_rfl⟩ Try.func138 c138 hasB138
theorem widx_ov : OvOk Try.prog 163 widxO := widxO_ok eL9_ok mixed ⟨rfl, rfl⟩ ⟨rfl, rfl, by kernel_rfl⟩ Try.func163 c163 hasB163
noncomputable def eL10 : Env := ⟨GL, ofT [(78, cfgF.O), (83, toldF.O), (38, stripesF.O), (94, oddF.O), (138, dskI), (95, slotsF.O), (50, dchkF.O), (107, overO), (132, nchkF.O), (161, putO), (90, nwF.O), (91, insO), (48, blkF.O), (35, onF.O), (86, takeO), (52, ndF.O), (143, oddF.O), (163, widxO)], ofT [(134, ovlO)]⟩
theorem eL10_ok : EnvOk Try.prog eL10 := envOk rfl rfl rfl gOkL ⟨cfg_ov, told_ov, stripes_ov, odd94_ov, dski_ov, slots_ov, dchk_ov, over2_ov, nchk_ov, put2_ov, nw_ov, ins2_ov, blk_ov, dialon_ov, take2_ov, nd_ov, odd143_ov, widx_ov, trivial⟩ xOk
theorem dsk_ov : OvOk Try.prog 101 dskF.O := dskF_ok eL10_ok mixed ⟨rfl, rfl, by kernel_rfl⟩ ⟨rfl, rfl⟩ ⟨rfl, rfl, by kernel_rfl⟩ ⟨rfl, rfl⟩ Try.func101 c101 hasB101
noncomputable def eL11 : Env := ⟨GL, ofT [(78, cfgF.O), (83, toldF.O), (38, stripesF.O), (94, oddF.O), (138, dskI), (95, slotsF.O), (50, dchkF.O), (107, overO), (132, nchkF.O), (161, putO), (90, nwF.O), (91, insO), (48, blkF.O), (35, onF.O), (86, takeO), (52, ndF.O), (143, oddF.O), (163, widxO), (101, dskF.O)], ofT [(134, ovlO)]⟩
theorem eL11_ok : EnvOk Try.prog eL11 := envOk rfl rfl rfl gOkL ⟨cfg_ov, told_ov, stripes_ov, odd94_ov, dski_ov, slots_ov, dchk_ov, over2_ov, nchk_ov, put2_ov, nw_ov, ins2_ov, blk_ov, dialon_ov, take2_ov, nd_ov, odd143_ov, widx_ov, dsk_ov, trivial⟩ xOk
theorem drdf_ov : OvOk Try.prog 51 drdF.O := drdF_ok eL11_ok mixed ⟨rfl, rfl⟩ ⟨rfl, rfl, by kernel_rfl⟩ ⟨rfl, rfl, by kernel_rfl⟩ ⟨rfl, rfl, by kernel_rfl⟩ ⟨rfl, rfl, by kernel_rfl⟩ ⟨rfl, rfl, by kernel_rfl⟩ Try.func140 c140 hasB140 Try.func51 c51 hasB51
theorem drdo_ov : OvOk Try.prog 51 drdO := drdO_ok eL11_ok mixed ⟨rfl, rfl⟩ ⟨rfl, rfl, by kernel_rfl⟩ ⟨rfl, rfl, by kernel_rfl⟩ ⟨rfl, rfl, by kernel_rfl⟩ ⟨rfl, rfl, by kernel_rfl⟩ ⟨rfl, rfl, by kernel_rfl⟩ Try.func140 c140 hasB140 Try.func51 c51 hasB51
theorem journal_ov : OvOk Try.prog 104 journalF.O := journalF_ok eL11_ok mixed ⟨rfl, rfl⟩ Try.func104 c104 hasB104
noncomputable def eL12 : Env := ⟨GL, ofT [(78, cfgF.O), (83, toldF.O), (38, stripesF.O), (94, oddF.O), (138, dskI), (95, slotsF.O), (50, dchkF.O), (107, overO), (132, nchkF.O), (161, putO), (90, nwF.O), (91, insO), (48, blkF.O), (35, onF.O), (86, takeO), (52, ndF.O), (143, oddF.O), (163, widxO), (101, dskF.O), (51, drdO), (104, journalF.O)], ofT [(134, ovlO)]⟩
theorem eL12_ok : EnvOk Try.prog eL12 := envOk rfl rfl rfl gOkL ⟨cfg_ov, told_ov, stripes_ov, odd94_ov, dski_ov, slots_ov, dchk_ov, over2_ov, nchk_ov, put2_ov, nw_ov, ins2_ov, blk_ov, dialon_ov, take2_ov, nd_ov, odd143_ov, widx_ov, dsk_ov, drdo_ov, journal_ov, trivial⟩ xOk
theorem ask_ov : OvOk Try.prog 65 askF.O := askF_ok eL12_ok mixed ⟨rfl, rfl⟩ ⟨rfl, rfl⟩ ⟨rfl, rfl, by kernel_rfl⟩ Try.func65 c65 hasB65
theorem drdv_ov : OvOk Try.prog 51 drdV := drdV_ok drdf_ov drdo_ov
noncomputable def eL13 : Env := ⟨GL, ofT [(78, cfgF.O), (83, toldF.O), (38, stripesF.O), (94, oddF.O), (138, dskI), (95, slotsF.O), (50, dchkF.O), (107, overO), (132, nchkF.O), (161, putO), (90, nwF.O), (91, insO), (48, blkF.O), (35, onF.O), (86, takeO), (52, ndF.O), (143, oddF.O), (163, widxO), (101, dskF.O), (51, drdV), (104, journalF.O), (65, askF.O)], ofT [(134, ovlO)]⟩
theorem eL13_ok : EnvOk Try.prog eL13 := envOk rfl rfl rfl gOkL ⟨cfg_ov, told_ov, stripes_ov, odd94_ov, dski_ov, slots_ov, dchk_ov, over2_ov, nchk_ov, put2_ov, nw_ov, ins2_ov, blk_ov, dialon_ov, take2_ov, nd_ov, odd143_ov, widx_ov, dsk_ov, drdv_ov, journal_ov, ask_ov, trivial⟩ xOk
theorem dr_ov : OvOk Try.prog 23 drF.O := drF_ok eL13_ok mixed ⟨rfl, rfl⟩ ⟨rfl, rfl⟩ ⟨rfl, rfl⟩ ⟨rfl, rfl⟩ ⟨rfl, rfl⟩ ⟨rfl, rfl, by kernel_rfl⟩ ⟨rfl, rfl, by kernel_rfl⟩ ⟨rfl, rfl⟩ Try.func106 c106 hasB106 Try.func23 c23 hasB23
theorem alive13_ov : OvOk Try.prog 47 trueO := trueO_ok e1_ok mixed hasB47 runAlive13
theorem grt_ov : OvOk Try.prog 32 grtF.O := grtF_ok eL13_ok mixed  Try.func32 c32 hasB32
theorem grt4_ov : OvOk Try.prog 21 grt4F.O := grt4F_ok eL13_ok mixed  Try.func21 c21 hasB21
theorem plc_ov : OvOk Try.prog 139 plcF.O := plcF_ok eL13_ok mixed ⟨rfl, rfl⟩ Try.func139 c139 hasB139
noncomputable def eL14 : Env := ⟨GL, ofT [(78, cfgF.O), (83, toldF.O), (38, stripesF.O), (94, oddF.O), (138, dskI), (95, slotsF.O), (50, dchkF.O), (107, overO), (132, nchkF.O), (161, putO), (90, nwF.O), (91, insO), (48, blkF.O), (35, onF.O), (86, takeO), (52, ndF.O), (143, oddF.O), (163, widxO), (101, dskF.O), (51, drdV), (104, journalF.O), (65, askF.O), (23, drF.O), (47, trueO), (32, grtF.O), (21, grt4F.O), (139, plcF.O)], ofT [(134, ovlO)]⟩
theorem eL14_ok : EnvOk Try.prog eL14 := envOk rfl rfl rfl gOkL ⟨cfg_ov, told_ov, stripes_ov, odd94_ov, dski_ov, slots_ov, dchk_ov, over2_ov, nchk_ov, put2_ov, nw_ov, ins2_ov, blk_ov, dialon_ov, take2_ov, nd_ov, odd143_ov, widx_ov, dsk_ov, drdv_ov, journal_ov, ask_ov, dr_ov, alive13_ov, grt_ov, grt4_ov, plc_ov, trivial⟩ xOk
theorem wrt_ov : OvOk Try.prog 102 wrtF.O := wrtF_ok eL14_ok mixed ⟨rfl, rfl⟩ ⟨rfl, rfl⟩ Try.func102 c102 hasB102
theorem twin_ov : OvOk Try.prog 103 twO := twO_ok eL14_ok mixed ⟨rfl, rfl, by kernel_rfl⟩ Try.func103 c103 hasB103
theorem widx2_ov : OvOk Try.prog 163 delI := delI_ok eL14_ok mixed ⟨rfl, rfl, by kernel_rfl⟩ Try.func163 c163 hasB163
noncomputable def eL15 : Env := ⟨GL, ofT [(78, cfgF.O), (83, toldF.O), (38, stripesF.O), (94, oddF.O), (138, dskI), (95, slotsF.O), (50, dchkF.O), (107, overO), (132, nchkF.O), (161, putO), (90, nwF.O), (91, insO), (48, blkF.O), (35, onF.O), (86, takeO), (52, ndF.O), (143, oddF.O), (163, delI), (101, dskF.O), (51, drdV), (104, journalF.O), (65, askF.O), (23, drF.O), (47, trueO), (32, grtF.O), (21, grt4F.O), (139, plcF.O), (102, wrtF.O), (103, twO)], ofT [(134, ovlO)]⟩
theorem eL15_ok : EnvOk Try.prog eL15 := envOk rfl rfl rfl gOkL ⟨cfg_ov, told_ov, stripes_ov, odd94_ov, dski_ov, slots_ov, dchk_ov, over2_ov, nchk_ov, put2_ov, nw_ov, ins2_ov, blk_ov, dialon_ov, take2_ov, nd_ov, odd143_ov, widx2_ov, dsk_ov, drdv_ov, journal_ov, ask_ov, dr_ov, alive13_ov, grt_ov, grt4_ov, plc_ov, wrt_ov, twin_ov, trivial⟩ xOk
theorem del_ov : OvOk Try.prog 136 delR := delR_ok eL15_ok mixed ⟨rfl, rfl⟩ ⟨rfl, rfl, by kernel_rfl⟩ Try.func136 c136 hasB136
noncomputable def eL16 : Env := ⟨GL, ofT [(78, cfgF.O), (83, toldF.O), (38, stripesF.O), (94, oddF.O), (138, dskI), (95, slotsF.O), (50, dchkF.O), (107, overO), (132, nchkF.O), (161, putO), (90, nwF.O), (91, insO), (48, blkF.O), (35, onF.O), (86, takeO), (52, ndF.O), (143, oddF.O), (163, delI), (101, dskF.O), (51, drdV), (104, journalF.O), (65, askF.O), (23, drF.O), (47, trueO), (32, grtF.O), (21, grt4F.O), (139, plcF.O), (102, wrtF.O), (103, twO), (136, delR)], ofT [(134, ovlO)]⟩
theorem eL16_ok : EnvOk Try.prog eL16 := envOk rfl rfl rfl gOkL ⟨cfg_ov, told_ov, stripes_ov, odd94_ov, dski_ov, slots_ov, dchk_ov, over2_ov, nchk_ov, put2_ov, nw_ov, ins2_ov, blk_ov, dialon_ov, take2_ov, nd_ov, odd143_ov, widx2_ov, dsk_ov, drdv_ov, journal_ov, ask_ov, dr_ov, alive13_ov, grt_ov, grt4_ov, plc_ov, wrt_ov, twin_ov, del_ov, trivial⟩ xOk
theorem fua_ov : OvOk Try.prog 92 fuaF.O := fuaF_ok eL16_ok mixed ⟨rfl, rfl⟩ ⟨rfl, rfl⟩ ⟨rfl, rfl, by kernel_rfl⟩ ⟨rfl, rfl, by kernel_rfl⟩ ⟨rfl, rfl⟩ Try.func92 c92 hasB92
noncomputable def eL17 : Env := ⟨GL, ofT [(78, cfgF.O), (83, toldF.O), (38, stripesF.O), (94, oddF.O), (138, dskI), (95, slotsF.O), (50, dchkF.O), (107, overO), (132, nchkF.O), (161, putO), (90, nwF.O), (91, insO), (48, blkF.O), (35, onF.O), (86, takeO), (52, ndF.O), (143, oddF.O), (163, delI), (101, dskF.O), (51, drdV), (104, journalF.O), (65, askF.O), (23, drF.O), (47, trueO), (32, grtF.O), (21, grt4F.O), (139, plcF.O), (102, wrtF.O), (103, twO), (136, delR), (92, fuaF.O)], ofT [(134, ovlO)]⟩
theorem eL17_ok : EnvOk Try.prog eL17 := envOk rfl rfl rfl gOkL ⟨cfg_ov, told_ov, stripes_ov, odd94_ov, dski_ov, slots_ov, dchk_ov, over2_ov, nchk_ov, put2_ov, nw_ov, ins2_ov, blk_ov, dialon_ov, take2_ov, nd_ov, odd143_ov, widx2_ov, dsk_ov, drdv_ov, journal_ov, ask_ov, dr_ov, alive13_ov, grt_ov, grt4_ov, plc_ov, wrt_ov, twin_ov, del_ov, fua_ov, trivial⟩ xOk
theorem laid13_ov : OvOk Try.prog 49 ldF.O := ldF_ok eL17_ok mixed ⟨rfl, rfl⟩ ⟨rfl, rfl⟩ Try.func49 c49 hasB49
noncomputable def eL18 : Env := ⟨GL, ofT [(78, cfgF.O), (83, toldF.O), (38, stripesF.O), (94, oddF.O), (138, dskI), (95, slotsF.O), (50, dchkF.O), (107, overO), (132, nchkF.O), (161, putO), (90, nwF.O), (91, insO), (48, blkF.O), (35, onF.O), (86, takeO), (52, ndF.O), (143, oddF.O), (163, delI), (101, dskF.O), (51, drdV), (104, journalF.O), (65, askF.O), (23, drF.O), (47, trueO), (32, grtF.O), (21, grt4F.O), (139, plcF.O), (102, wrtF.O), (103, twO), (136, delR), (92, fuaF.O), (49, ldF.O)], ofT [(134, ovlO)]⟩
theorem eL18_ok : EnvOk Try.prog eL18 := envOk rfl rfl rfl gOkL ⟨cfg_ov, told_ov, stripes_ov, odd94_ov, dski_ov, slots_ov, dchk_ov, over2_ov, nchk_ov, put2_ov, nw_ov, ins2_ov, blk_ov, dialon_ov, take2_ov, nd_ov, odd143_ov, widx2_ov, dsk_ov, drdv_ov, journal_ov, ask_ov, dr_ov, alive13_ov, grt_ov, grt4_ov, plc_ov, wrt_ov, twin_ov, del_ov, fua_ov, laid13_ov, trivial⟩ xOk
theorem inDealShort : SHIn eL18 := ⟨⟨rfl, rfl⟩, ⟨rfl, rfl⟩, ⟨rfl, rfl⟩, ⟨rfl, rfl⟩, ⟨rfl, rfl⟩, ⟨rfl, rfl⟩⟩
theorem putR_ov : OvOk Try.prog 161 putRO := putRO_ok e0_ok mixed i130 i131 Try.func161 c161 hasB161
noncomputable def eSN : Env := ⟨GL, ofT [(132, nchkF.O), (161, putRO), (107, overO)], ofT [(134, ovlO)]⟩
theorem eSN_ok : EnvOk Try.prog eSN := envOk rfl rfl rfl gOkL ⟨nchk_ov, putR_ov, over2_ov, trivial⟩ xOk
theorem nwR_ov : OvOk Try.prog 90 nwRF.O := nwRF_ok eSN_ok mixed ⟨rfl, rfl⟩ ⟨rfl, rfl, by kernel_rfl⟩ ⟨rfl, rfl⟩ ⟨rfl, rfl, by kernel_rfl⟩ ⟨rfl, rfl, by kernel_rfl⟩ ⟨rfl, rfl⟩ Try.func142 c142 hasB142 Try.func90 c90 hasB90
noncomputable def eSH : Env := ⟨GL, ofT [(50, dchkF.O), (107, overO), (90, nwRF.O), (91, insO)], ofT [(134, ovlO)]⟩
theorem eSH_ok : EnvOk Try.prog eSH := envOk rfl rfl rfl gOkL ⟨dchk_ov, over2_ov, nwR_ov, ins2_ov, trivial⟩ xOk
noncomputable def eSK : Env := ⟨GL, ofT [(50, dchkF.O), (107, overO), (90, nwF.O), (91, insO)], ofT [(134, ovlO)]⟩
theorem eSK_ok : EnvOk Try.prog eSK := envOk rfl rfl rfl gOkL ⟨dchk_ov, over2_ov, nw_ov, ins2_ov, trivial⟩ xOk
theorem blkR_ov : ∀ i0, OvOk Try.prog 48 (blkRF i0).O
 | 0 => blkRH_ok eSH_ok mixed ⟨rfl, rfl⟩ ⟨rfl, rfl, by kernel_rfl⟩ ⟨rfl, rfl, by kernel_rfl⟩ ⟨rfl, rfl, by kernel_rfl⟩ ⟨rfl, rfl⟩ ⟨rfl, rfl⟩ ⟨rfl, rfl⟩ Try.func48 c48 hasB48
 | j + 1 => blkRK_ok j eSK_ok mixed ⟨rfl, rfl⟩ ⟨rfl, rfl, by kernel_rfl⟩ ⟨rfl, rfl, by kernel_rfl⟩ ⟨rfl, rfl, by kernel_rfl⟩ ⟨rfl, rfl⟩ ⟨rfl, rfl⟩ ⟨rfl, rfl⟩ Try.func48 c48 hasB48
noncomputable def eS (i0 : Nat) : Env := ⟨GL, ofT [(47, trueO), (32, grtF.O), (21, grt4F.O), (23, drF.O), (49, ldF.O), (48, (blkRF i0).O)], ofT [(134, ovlO)]⟩
theorem eS_ok (i0 : Nat) : EnvOk Try.prog (eS i0) := envOk rfl rfl rfl gOkL ⟨alive13_ov, grt_ov, grt4_ov, dr_ov, laid13_ov, blkR_ov i0, trivial⟩ xOk
theorem dealShort_C (c : Cfg) (j : DK) (a : Int) (d : DB) (wi wh : Int) (y0 y1 y2 y3 : Nat) (hc : c.ok) (hj : j.any) (ha : i64B a) (hd : d.any) (hwi : 0 ≤ wi ∧ wi < 256) (hwh : 0 ≤ wh ∧ wh < 256) (hy : y0 < 256 ∧ y1 < 256 ∧ y2 < 256 ∧ y3 < 256) :
   C Try.prog 11 [c.v, j.v, .int .i64 a, d.d.v, .int .u8 wi, .int .u8 wh, .agg (yv y0 y1 y2 y3)] St0 (fun u _ => u = .bool true) := by
 by_cases hcase : grtB d = false ∧ grt4B j = false ∧ ¬ (y0 = 0 ∧ y1 = 0 ∧ y2 = 0 ∧ y3 = 0) ∧ (CD.good ⟨c, d.d⟩ ∧ noteB (BD.note ⟨c, 3, 4, d⟩) = true) ∧ askE ⟨c, j, a⟩ = 0
 · obtain ⟨h1, h2, h3, h4, h5⟩ := hcase
   have h0 := Int.emod_nonneg wi (show ((d.prs.length + 1 : Nat) : Int) ≠ 0 by omega)
   exact C.of_W Try.func11 c11 (sho_good Try.prog (eS (wi % ((d.prs.length + 1 : Nat) : Int)).toNat) (eS_ok _) mixed ⟨rfl, rfl⟩ ⟨rfl, rfl⟩ ⟨rfl, rfl⟩ ⟨rfl, rfl⟩ ⟨rfl, rfl⟩ ⟨rfl, rfl⟩ c hc j hj a ha d hd wi wh hwi hwh hy h1 h2 h3 h4.1 h4.2 h5 (by omega))
 · exact C.of_V eL18_ok mixed Try.func11 c11 (sho_early Try.prog eL18 eL18_ok mixed inDealShort.h47 inDealShort.h32 inDealShort.h21 inDealShort.h23 inDealShort.h48 c hc j hj a ha d hd wi wh hcase)
end Go.AM
