/-
  Functions of the program as the abstract machine reads them, and what is stated of them, checked by the kernel. No conditions.
-/
import Derived.Test.YtnnbibnobmegpaaSeatEnv
import Derived.Test.YtnnbibnobmegpaaSeatP
import Derived.Test.YtnnbibnobmegpaaSeatQ
import Derived.Test.YtnnbibnobmegpaaSeatV
import Derived.WalkKit
set_option linter.unusedVariables false
set_option linter.unusedSimpArgs false

set_option maxRecDepth 1000000
namespace Go.AM
open Go.Proofs Go.AM.X
theorem c20 : compF Try.prog Try.f20 = some a20 := by kernel_rfl
theorem c21 : compF Try.prog Try.f21 = some a21 := by kernel_rfl
theorem c29 : compF Try.prog Try.f29 = some a29 := by kernel_rfl
theorem c64 : compF Try.prog Try.f64 = some a64 := by kernel_rfl
noncomputable def GL : T AFn := ofT ([(20, a20), (21, a21), (29, a29), (64, a64)] ++ gl)
theorem gOkL : All (GOk Try.prog) ([(20, a20), (21, a21), (29, a29), (64, a64)] ++ gl) := ⟨⟨Try.f20, Try.func20, c20, by kernel_rfl⟩, ⟨Try.f21, Try.func21, c21, by kernel_rfl⟩, ⟨Try.f29, Try.func29, c29, by kernel_rfl⟩, ⟨Try.f64, Try.func64, c64, by kernel_rfl⟩, gOk⟩
theorem hasB20 : HasBody Try.prog 20 := ⟨Try.f20, _, Try.func20, rfl, by kernel_rfl⟩
theorem hasB21 : HasBody Try.prog 21 := ⟨Try.f21, _, Try.func21, rfl, by kernel_rfl⟩
theorem hasB23 : HasBody Try.prog 23 := ⟨Try.f23, _, Try.func23, rfl, by kernel_rfl⟩
theorem hasB25 : HasBody Try.prog 25 := ⟨Try.f25, _, Try.func25, rfl, by kernel_rfl⟩
theorem hasB27 : HasBody Try.prog 27 := ⟨Try.f27, _, Try.func27, rfl, by kernel_rfl⟩
theorem hasB29 : HasBody Try.prog 29 := ⟨Try.f29, _, Try.func29, rfl, by kernel_rfl⟩
theorem hasB35 : HasBody Try.prog 35 := ⟨Try.f35, _, Try.func35, rfl, by kernel_rfl⟩
theorem hasB38 : HasBody Try.prog 38 := ⟨Try.f38, _, Try.func38, rfl, by kernel_rfl⟩
theorem hasB50 : HasBody Try.prog 50 := ⟨Try.f50, _, Try.func50, rfl, by kernel_rfl⟩
theorem hasB51 : HasBody Try.prog 51 := ⟨Try.f51, _, Try.func51, rfl, by kernel_rfl⟩
theorem hasB52 : HasBody Try.prog 52 := ⟨Try.f52, _, Try.func52, rfl, by kernel_rfl⟩
theorem hasB59 : HasBody Try.prog 59 := ⟨Try.f59, _, Try.func59, rfl, by kernel_rfl⟩
theorem hasB64 : HasBody Try.prog 64 := ⟨Try.f64, _, Try.func64, rfl, by kernel_rfl⟩
theorem hasB65 : HasBody Try.prog 65 := ⟨Try.f65, _, Try.func65, rfl, by kernel_rfl⟩
theorem hasB71 : HasBody Try.prog 71 := ⟨Try.f71, _, Try.func71, rfl, by kernel_rfl⟩
theorem hasB73 : HasBody Try.prog 73 := ⟨Try.f73, _, Try.func73, rfl, by kernel_rfl⟩
theorem hasB78 : HasBody Try.prog 78 := ⟨Try.f78, _, Try.func78, rfl, by kernel_rfl⟩
theorem hasB83 : HasBody Try.prog 83 := ⟨Try.f83, _, Try.func83, rfl, by kernel_rfl⟩
theorem hasB90 : HasBody Try.prog 90 := ⟨Try.f90, _, Try.func90, rfl, by kernel_rfl⟩
theorem hasB94 : HasBody Try.prog 94 := ⟨Try.f94, _, Try.func94, rfl, by kernel_rfl⟩
theorem hasB95 : HasBody Try.prog 95 := ⟨Try.f95, _, Try.func95, rfl, by kernel_rfl⟩
theorem hasB101 : HasBody Try.prog 101 := ⟨Try.f101, _, Try.func101, rfl, by kernel_rfl⟩
theorem hasB103 : HasBody Try.prog 103 := ⟨Try.f103, _, Try.func103, rfl, by kernel_rfl⟩
theorem hasB104 : HasBody Try.prog 104 := ⟨Try.f104, _, Try.func104, rfl, by kernel_rfl⟩
theorem hasB106 : HasBody Try.prog 106 := ⟨Try.f106, _, Try.func106, rfl, by kernel_rfl⟩
theorem hasB114 : HasBody Try.prog 114 := ⟨Try.f114, _, Try.func114, rfl, by kernel_rfl⟩
theorem hasB117 : HasBody Try.prog 117 := ⟨Try.f117, _, Try.func117, rfl, by kernel_rfl⟩
theorem hasB132 : HasBody Try.prog 132 := ⟨Try.f132, _, Try.func132, rfl, by kernel_rfl⟩
theorem hasB138 : HasBody Try.prog 138 := ⟨Try.f138, _, Try.func138, rfl, by kernel_rfl⟩
theorem hasB140 : HasBody Try.prog 140 := ⟨Try.f140, _, Try.func140, rfl, by kernel_rfl⟩
theorem hasB142 : HasBody Try.prog 142 := ⟨Try.f142, _, Try.func142, rfl, by kernel_rfl⟩
theorem hasB143 : HasBody Try.prog 143 := ⟨Try.f143, _, Try.func143, rfl, by kernel_rfl⟩
theorem hasB163 : HasBody Try.prog 163 := ⟨Try.f163, _, Try.func163, rfl, by kernel_rfl⟩
theorem runAlive15 : isTrue (callA e1 (exec e1 100000) 59 [] St0) = true := by kernel_rfl
noncomputable def eL1 : Env := ⟨GL, .lf, ofT [(134, ovlO)]⟩
theorem eL1_ok : EnvOk Try.prog eL1 := envOk (ol := []) rfl rfl rfl gOkL trivial xOk
theorem cfg_ov : OvOk Try.prog 78 cfgF.O := cfgF_ok eL1_ok mixed ⟨rfl, rfl, by kernel_rfl⟩ Try.func78 c78 hasB78
noncomputable def eL2 : Env := ⟨GL, ofT [(78, cfgF.O)], ofT [(134, ovlO)]⟩
theorem eL2_ok : EnvOk Try.prog eL2 := envOk rfl rfl rfl gOkL ⟨cfg_ov, trivial⟩ xOk
theorem told_ov : OvOk Try.prog 83 toldF.O := toldF_ok eL2_ok mixed ⟨rfl, rfl⟩ Try.func83 c83 hasB83
noncomputable def eL3 : Env := ⟨GL, ofT [(78, cfgF.O), (83, toldF.O)], ofT [(134, ovlO)]⟩
theorem eL3_ok : EnvOk Try.prog eL3 := envOk rfl rfl rfl gOkL ⟨cfg_ov, told_ov, trivial⟩ xOk
theorem stripes_ov : OvOk Try.prog 38 stripesF.O := stripesF_ok eL3_ok mixed ⟨rfl, rfl⟩ Try.func38 c38 hasB38
theorem odd94_ov : OvOk Try.prog 94 oddF.O := oddF94_ok eL3_ok mixed  Try.func94 c94 hasB94
noncomputable def eL4 : Env := ⟨GL, ofT [(78, cfgF.O), (83, toldF.O), (38, stripesF.O), (94, oddF.O)], ofT [(134, ovlO)]⟩
theorem eL4_ok : EnvOk Try.prog eL4 := envOk rfl rfl rfl gOkL ⟨cfg_ov, told_ov, stripes_ov, odd94_ov, trivial⟩ xOk
theorem idx94_ov : OvOk Try.prog 138 (idxF 94).O := idxF_ok eL4_ok mixed 94 ⟨rfl, rfl⟩ Try.func138 c138 hasB138
theorem slots_ov : OvOk Try.prog 95 slotsF.O := slotsF_ok eL4_ok mixed  Try.func95 c95 hasB95
noncomputable def eL5 : Env := ⟨GL, ofT [(78, cfgF.O), (83, toldF.O), (38, stripesF.O), (94, oddF.O), (138, (idxF 94).O), (95, slotsF.O)], ofT [(134, ovlO)]⟩
theorem eL5_ok : EnvOk Try.prog eL5 := envOk rfl rfl rfl gOkL ⟨cfg_ov, told_ov, stripes_ov, odd94_ov, idx94_ov, slots_ov, trivial⟩ xOk
theorem dchk_ov : OvOk Try.prog 50 dchkF.O := dchkF_ok eL5_ok mixed ⟨rfl, rfl⟩ ⟨rfl, rfl, by kernel_rfl⟩ ⟨rfl, rfl⟩ ⟨rfl, rfl⟩ Try.func50 c50 hasB50
theorem dialon_ov : OvOk Try.prog 35 onF.O := onF_ok eL5_ok mixed ⟨rfl, rfl, by kernel_rfl⟩ ⟨rfl, rfl, by kernel_rfl⟩ Try.func35 c35 hasB35
theorem take2_ov : OvOk Try.prog 86 takeO := take_ok
theorem nchk_ov : OvOk Try.prog 132 nchkF.O := nchkF_ok eL5_ok mixed  Try.func132 c132 hasB132
theorem put2_ov : OvOk Try.prog 161 putO := put_ok
theorem over2_ov : OvOk Try.prog 107 overO := over_ok
noncomputable def eL6 : Env := ⟨GL, ofT [(78, cfgF.O), (83, toldF.O), (38, stripesF.O), (94, oddF.O), (138, (idxF 94).O), (95, slotsF.O), (50, dchkF.O), (35, onF.O), (86, takeO), (132, nchkF.O), (161, putO), (107, overO)], ofT [(134, ovlO)]⟩
theorem eL6_ok : EnvOk Try.prog eL6 := envOk rfl rfl rfl gOkL ⟨cfg_ov, told_ov, stripes_ov, odd94_ov, idx94_ov, slots_ov, dchk_ov, dialon_ov, take2_ov, nchk_ov, put2_ov, over2_ov, trivial⟩ xOk
theorem nw_ov : OvOk Try.prog 90 nwF.O := nwF_ok eL6_ok mixed ⟨rfl, rfl⟩ ⟨rfl, rfl, by kernel_rfl⟩ ⟨rfl, rfl⟩ ⟨rfl, rfl, by kernel_rfl⟩ ⟨rfl, rfl, by kernel_rfl⟩ ⟨rfl, rfl⟩ Try.func142 c142 hasB142 Try.func90 c90 hasB90
noncomputable def eL7 : Env := ⟨GL, ofT [(78, cfgF.O), (83, toldF.O), (38, stripesF.O), (94, oddF.O), (138, (idxF 94).O), (95, slotsF.O), (50, dchkF.O), (35, onF.O), (86, takeO), (132, nchkF.O), (161, putO), (107, overO), (90, nwF.O)], ofT [(134, ovlO)]⟩
theorem eL7_ok : EnvOk Try.prog eL7 := envOk rfl rfl rfl gOkL ⟨cfg_ov, told_ov, stripes_ov, odd94_ov, idx94_ov, slots_ov, dchk_ov, dialon_ov, take2_ov, nchk_ov, put2_ov, over2_ov, nw_ov, trivial⟩ xOk
theorem nd_ov : OvOk Try.prog 52 ndF.O := ndF_ok eL7_ok mixed ⟨rfl, rfl⟩ ⟨rfl, rfl, by kernel_rfl⟩ ⟨rfl, rfl, by kernel_rfl⟩ ⟨rfl, rfl⟩ Try.func142 c142 hasB142 Try.func52 c52 hasB52
theorem odd143_ov : OvOk Try.prog 143 oddF.O := oddF143_ok eL7_ok mixed  Try.func143 c143 hasB143
noncomputable def eL8 : Env := ⟨GL, ofT [(78, cfgF.O), (83, toldF.O), (38, stripesF.O), (94, oddF.O), (138, (idxF 94).O), (95, slotsF.O), (50, dchkF.O), (35, onF.O), (86, takeO), (132, nchkF.O), (161, putO), (107, overO), (90, nwF.O), (52, ndF.O), (143, oddF.O)], ofT [(134, ovlO)]⟩
theorem eL8_ok : EnvOk Try.prog eL8 := envOk rfl rfl rfl gOkL ⟨cfg_ov, told_ov, stripes_ov, odd94_ov, idx94_ov, slots_ov, dchk_ov, dialon_ov, take2_ov, nchk_ov, put2_ov, over2_ov, nw_ov, nd_ov, odd143_ov, trivial⟩ xOk
theorem dski_ov : OvOk Try.prog 138 dskI := dskI_ok eL8_ok mixed ⟨rfl, rfl⟩ ⟨rfl, rfl, by kernel_rfl⟩ Try.func138 c138 hasB138
theorem widx_ov : OvOk Try.prog 163 widxO := widxO_ok eL8_ok mixed ⟨rfl, rfl⟩ ⟨rfl, rfl, by kernel_rfl⟩ Try.func163 c163 hasB163
noncomputable def eL9 : Env := ⟨GL, ofT [(78, cfgF.O), (83, toldF.O), (38, stripesF.O), (94, oddF.O), (138, dskI), (95, slotsF.O), (50, dchkF.O), (35, onF.O), (86, takeO), (132, nchkF.O), (161, putO), (107, overO), (90, nwF.O), (52, ndF.O), (143, oddF.O), (163, widxO)], ofT [(134, ovlO)]⟩
theorem eL9_ok : EnvOk Try.prog eL9 := envOk rfl rfl rfl gOkL ⟨cfg_ov, told_ov, stripes_ov, odd94_ov, dski_ov, slots_ov, dchk_ov, dialon_ov, take2_ov, nchk_ov, put2_ov, over2_ov, nw_ov, nd_ov, odd143_ov, widx_ov, trivial⟩ xOk
theorem dsk_ov : OvOk Try.prog 101 dskF.O := dskF_ok eL9_ok mixed ⟨rfl, rfl, by kernel_rfl⟩ ⟨rfl, rfl⟩ ⟨rfl, rfl, by kernel_rfl⟩ ⟨rfl, rfl⟩ Try.func101 c101 hasB101
noncomputable def eL10 : Env := ⟨GL, ofT [(78, cfgF.O), (83, toldF.O), (38, stripesF.O), (94, oddF.O), (138, dskI), (95, slotsF.O), (50, dchkF.O), (35, onF.O), (86, takeO), (132, nchkF.O), (161, putO), (107, overO), (90, nwF.O), (52, ndF.O), (143, oddF.O), (163, widxO), (101, dskF.O)], ofT [(134, ovlO)]⟩
theorem eL10_ok : EnvOk Try.prog eL10 := envOk rfl rfl rfl gOkL ⟨cfg_ov, told_ov, stripes_ov, odd94_ov, dski_ov, slots_ov, dchk_ov, dialon_ov, take2_ov, nchk_ov, put2_ov, over2_ov, nw_ov, nd_ov, odd143_ov, widx_ov, dsk_ov, trivial⟩ xOk
theorem drdf_ov : OvOk Try.prog 51 drdF.O := drdF_ok eL10_ok mixed ⟨rfl, rfl⟩ ⟨rfl, rfl, by kernel_rfl⟩ ⟨rfl, rfl, by kernel_rfl⟩ ⟨rfl, rfl, by kernel_rfl⟩ ⟨rfl, rfl, by kernel_rfl⟩ ⟨rfl, rfl, by kernel_rfl⟩ Try.func140 c140 hasB140 Try.func51 c51 hasB51
theorem drdo_ov : OvOk Try.prog 51 drdO := drdO_ok eL10_ok mixed ⟨rfl, rfl⟩ ⟨rfl, rfl, by kernel_rfl⟩ ⟨rfl, rfl, by kernel_rfl⟩ ⟨rfl, rfl, by kernel_rfl⟩ ⟨rfl, rfl, by kernel_rfl⟩ ⟨rfl, rfl, by kernel_rfl⟩ Try.func140 c140 hasB140 Try.func51 c51 hasB51
theorem alive15_ov : OvOk Try.prog 59 trueO := trueO_ok e1_ok mixed hasB59 runAlive15
theorem grt4_ov : OvOk Try.prog 21 grt4F.O := grt4F_ok eL10_ok mixed  Try.func21 c21 hasB21
theorem journal_ov : OvOk Try.prog 104 journalF.O := journalF_ok eL10_ok mixed ⟨rfl, rfl⟩ Try.func104 c104 hasB104
theorem drdv_ov : OvOk Try.prog 51 drdV := drdV_ok drdf_ov drdo_ov
theorem read2_ov : OvOk Try.prog 41 readO := read_ok
noncomputable def eL11 : Env := ⟨GL, ofT [(78, cfgF.O), (83, toldF.O), (38, stripesF.O), (94, oddF.O), (138, dskI), (95, slotsF.O), (50, dchkF.O), (35, onF.O), (86, takeO), (132, nchkF.O), (161, putO), (107, overO), (90, nwF.O), (52, ndF.O), (143, oddF.O), (163, widxO), (101, dskF.O), (51, drdV), (59, trueO), (21, grt4F.O), (104, journalF.O), (41, readO)], ofT [(134, ovlO)]⟩
theorem eL11_ok : EnvOk Try.prog eL11 := envOk rfl rfl rfl gOkL ⟨cfg_ov, told_ov, stripes_ov, odd94_ov, dski_ov, slots_ov, dchk_ov, dialon_ov, take2_ov, nchk_ov, put2_ov, over2_ov, nw_ov, nd_ov, odd143_ov, widx_ov, dsk_ov, drdv_ov, alive15_ov, grt4_ov, journal_ov, read2_ov, trivial⟩ xOk
theorem fst_ov : OvOk Try.prog 73 fstF.O := fstF_ok eL11_ok mixed ⟨rfl, rfl⟩ ⟨rfl, rfl⟩ ⟨rfl, rfl⟩ ⟨rfl, rfl⟩ Try.func73 c73 hasB73
theorem ask_ov : OvOk Try.prog 65 askF.O := askF_ok eL11_ok mixed ⟨rfl, rfl⟩ ⟨rfl, rfl⟩ ⟨rfl, rfl, by kernel_rfl⟩ Try.func65 c65 hasB65
noncomputable def eL12 : Env := ⟨GL, ofT [(78, cfgF.O), (83, toldF.O), (38, stripesF.O), (94, oddF.O), (138, dskI), (95, slotsF.O), (50, dchkF.O), (35, onF.O), (86, takeO), (132, nchkF.O), (161, putO), (107, overO), (90, nwF.O), (52, ndF.O), (143, oddF.O), (163, widxO), (101, dskF.O), (51, drdV), (59, trueO), (21, grt4F.O), (104, journalF.O), (41, readO), (73, fstF.O), (65, askF.O)], ofT [(134, ovlO)]⟩
theorem eL12_ok : EnvOk Try.prog eL12 := envOk rfl rfl rfl gOkL ⟨cfg_ov, told_ov, stripes_ov, odd94_ov, dski_ov, slots_ov, dchk_ov, dialon_ov, take2_ov, nchk_ov, put2_ov, over2_ov, nw_ov, nd_ov, odd143_ov, widx_ov, dsk_ov, drdv_ov, alive15_ov, grt4_ov, journal_ov, read2_ov, fst_ov, ask_ov, trivial⟩ xOk
theorem dr_ov : OvOk Try.prog 23 drF.O := drF_ok eL12_ok mixed ⟨rfl, rfl⟩ ⟨rfl, rfl⟩ ⟨rfl, rfl⟩ ⟨rfl, rfl⟩ ⟨rfl, rfl⟩ ⟨rfl, rfl, by kernel_rfl⟩ ⟨rfl, rfl, by kernel_rfl⟩ ⟨rfl, rfl⟩ Try.func106 c106 hasB106 Try.func23 c23 hasB23
noncomputable def eL13 : Env := ⟨GL, ofT [(78, cfgF.O), (83, toldF.O), (38, stripesF.O), (94, oddF.O), (138, dskI), (95, slotsF.O), (50, dchkF.O), (35, onF.O), (86, takeO), (132, nchkF.O), (161, putO), (107, overO), (90, nwF.O), (52, ndF.O), (143, oddF.O), (163, widxO), (101, dskF.O), (51, drdV), (59, trueO), (21, grt4F.O), (104, journalF.O), (41, readO), (73, fstF.O), (65, askF.O), (23, drF.O)], ofT [(134, ovlO)]⟩
theorem eL13_ok : EnvOk Try.prog eL13 := envOk rfl rfl rfl gOkL ⟨cfg_ov, told_ov, stripes_ov, odd94_ov, dski_ov, slots_ov, dchk_ov, dialon_ov, take2_ov, nchk_ov, put2_ov, over2_ov, nw_ov, nd_ov, odd143_ov, widx_ov, dsk_ov, drdv_ov, alive15_ov, grt4_ov, journal_ov, read2_ov, fst_ov, ask_ov, dr_ov, trivial⟩ xOk
theorem all_ov : OvOk Try.prog 27 allF.O := allF_ok eL13_ok mixed ⟨rfl, rfl⟩ ⟨rfl, rfl⟩ ⟨rfl, rfl⟩ ⟨rfl, rfl, by kernel_rfl⟩ ⟨rfl, rfl, by kernel_rfl⟩ Try.func117 c117 hasB117 Try.func27 c27 hasB27
theorem twin_ov : OvOk Try.prog 103 twO := twO_ok eL13_ok mixed ⟨rfl, rfl, by kernel_rfl⟩ Try.func103 c103 hasB103
noncomputable def eL14 : Env := ⟨GL, ofT [(78, cfgF.O), (83, toldF.O), (38, stripesF.O), (94, oddF.O), (138, dskI), (95, slotsF.O), (50, dchkF.O), (35, onF.O), (86, takeO), (132, nchkF.O), (161, putO), (107, overO), (90, nwF.O), (52, ndF.O), (143, oddF.O), (163, widxO), (101, dskF.O), (51, drdV), (59, trueO), (21, grt4F.O), (104, journalF.O), (41, readO), (73, fstF.O), (65, askF.O), (23, drF.O), (27, allF.O), (103, twO)], ofT [(134, ovlO)]⟩
theorem eL14_ok : EnvOk Try.prog eL14 := envOk rfl rfl rfl gOkL ⟨cfg_ov, told_ov, stripes_ov, odd94_ov, dski_ov, slots_ov, dchk_ov, dialon_ov, take2_ov, nchk_ov, put2_ov, over2_ov, nw_ov, nd_ov, odd143_ov, widx_ov, dsk_ov, drdv_ov, alive15_ov, grt4_ov, journal_ov, read2_ov, fst_ov, ask_ov, dr_ov, all_ov, twin_ov, trivial⟩ xOk
theorem flu_ov : OvOk Try.prog 64 fluF.O := fluF_ok eL14_ok mixed ⟨rfl, rfl⟩ ⟨rfl, rfl⟩ Try.func64 c64 hasB64
theorem whole114_ov : OvOk Try.prog 114 wholeF.O := wholeF_ok eL14_ok mixed  Try.func114 c114 hasB114
noncomputable def eL15 : Env := ⟨GL, ofT [(78, cfgF.O), (83, toldF.O), (38, stripesF.O), (94, oddF.O), (138, dskI), (95, slotsF.O), (50, dchkF.O), (35, onF.O), (86, takeO), (132, nchkF.O), (161, putO), (107, overO), (90, nwF.O), (52, ndF.O), (143, oddF.O), (163, widxO), (101, dskF.O), (51, drdV), (59, trueO), (21, grt4F.O), (104, journalF.O), (41, readO), (73, fstF.O), (65, askF.O), (23, drF.O), (27, allF.O), (103, twO), (64, fluF.O), (114, wholeF.O)], ofT [(134, ovlO)]⟩
theorem eL15_ok : EnvOk Try.prog eL15 := envOk rfl rfl rfl gOkL ⟨cfg_ov, told_ov, stripes_ov, odd94_ov, dski_ov, slots_ov, dchk_ov, dialon_ov, take2_ov, nchk_ov, put2_ov, over2_ov, nw_ov, nd_ov, odd143_ov, widx_ov, dsk_ov, drdv_ov, alive15_ov, grt4_ov, journal_ov, read2_ov, fst_ov, ask_ov, dr_ov, all_ov, twin_ov, flu_ov, whole114_ov, trivial⟩ xOk
theorem same71_ov : OvOk Try.prog 71 same2F.O := same2F_ok eL15_ok mixed ⟨rfl, rfl⟩ Try.func71 c71 hasB71
noncomputable def eL16 : Env := ⟨GL, ofT [(78, cfgF.O), (83, toldF.O), (38, stripesF.O), (94, oddF.O), (138, dskI), (95, slotsF.O), (50, dchkF.O), (35, onF.O), (86, takeO), (132, nchkF.O), (161, putO), (107, overO), (90, nwF.O), (52, ndF.O), (143, oddF.O), (163, widxO), (101, dskF.O), (51, drdV), (59, trueO), (21, grt4F.O), (104, journalF.O), (41, readO), (73, fstF.O), (65, askF.O), (23, drF.O), (27, allF.O), (103, twO), (64, fluF.O), (114, wholeF.O), (71, same2F.O)], ofT [(134, ovlO)]⟩
theorem eL16_ok : EnvOk Try.prog eL16 := envOk rfl rfl rfl gOkL ⟨cfg_ov, told_ov, stripes_ov, odd94_ov, dski_ov, slots_ov, dchk_ov, dialon_ov, take2_ov, nchk_ov, put2_ov, over2_ov, nw_ov, nd_ov, odd143_ov, widx_ov, dsk_ov, drdv_ov, alive15_ov, grt4_ov, journal_ov, read2_ov, fst_ov, ask_ov, dr_ov, all_ov, twin_ov, flu_ov, whole114_ov, same71_ov, trivial⟩ xOk
theorem same25_ov : OvOk Try.prog 25 sameF.O := sameF_ok eL16_ok mixed ⟨rfl, rfl⟩ Try.func25 c25 hasB25
noncomputable def eL17 : Env := ⟨GL, ofT [(78, cfgF.O), (83, toldF.O), (38, stripesF.O), (94, oddF.O), (138, dskI), (95, slotsF.O), (50, dchkF.O), (35, onF.O), (86, takeO), (132, nchkF.O), (161, putO), (107, overO), (90, nwF.O), (52, ndF.O), (143, oddF.O), (163, widxO), (101, dskF.O), (51, drdV), (59, trueO), (21, grt4F.O), (104, journalF.O), (41, readO), (73, fstF.O), (65, askF.O), (23, drF.O), (27, allF.O), (103, twO), (64, fluF.O), (114, wholeF.O), (71, same2F.O), (25, sameF.O)], ofT [(134, ovlO)]⟩
theorem eL17_ok : EnvOk Try.prog eL17 := envOk rfl rfl rfl gOkL ⟨cfg_ov, told_ov, stripes_ov, odd94_ov, dski_ov, slots_ov, dchk_ov, dialon_ov, take2_ov, nchk_ov, put2_ov, over2_ov, nw_ov, nd_ov, odd143_ov, widx_ov, dsk_ov, drdv_ov, alive15_ov, grt4_ov, journal_ov, read2_ov, fst_ov, ask_ov, dr_ov, all_ov, twin_ov, flu_ov, whole114_ov, same71_ov, same25_ov, trivial⟩ xOk
theorem same15_ov : OvOk Try.prog 29 sfF.O := sfF_ok eL17_ok mixed ⟨rfl, rfl⟩ Try.func29 c29 hasB29
noncomputable def eL18 : Env := ⟨GL, ofT [(78, cfgF.O), (83, toldF.O), (38, stripesF.O), (94, oddF.O), (138, dskI), (95, slotsF.O), (50, dchkF.O), (35, onF.O), (86, takeO), (132, nchkF.O), (161, putO), (107, overO), (90, nwF.O), (52, ndF.O), (143, oddF.O), (163, widxO), (101, dskF.O), (51, drdV), (59, trueO), (21, grt4F.O), (104, journalF.O), (41, readO), (73, fstF.O), (65, askF.O), (23, drF.O), (27, allF.O), (103, twO), (64, fluF.O), (114, wholeF.O), (71, same2F.O), (25, sameF.O), (29, sfF.O)], ofT [(134, ovlO)]⟩
theorem eL18_ok : EnvOk Try.prog eL18 := envOk rfl rfl rfl gOkL ⟨cfg_ov, told_ov, stripes_ov, odd94_ov, dski_ov, slots_ov, dchk_ov, dialon_ov, take2_ov, nchk_ov, put2_ov, over2_ov, nw_ov, nd_ov, odd143_ov, widx_ov, dsk_ov, drdv_ov, alive15_ov, grt4_ov, journal_ov, read2_ov, fst_ov, ask_ov, dr_ov, all_ov, twin_ov, flu_ov, whole114_ov, same71_ov, same25_ov, same15_ov, trivial⟩ xOk
theorem inScanFlushed : SFIn eL18 := ⟨⟨rfl, rfl⟩, ⟨rfl, rfl⟩, ⟨rfl, rfl⟩, ⟨rfl, rfl⟩, ⟨rfl, rfl⟩⟩
theorem scanFlushed_C (c : Cfg) (d : DK) (hc : c.ok) (hd : d.any) :
    C Try.prog 20 [c.v, d.v] St0 (fun u _ => u = .bool true) :=
  C.of_V eL18_ok mixed Try.func20 c20 (flushed_law Try.prog eL18 eL18_ok mixed inScanFlushed c hc d hd)
end Go.AM
