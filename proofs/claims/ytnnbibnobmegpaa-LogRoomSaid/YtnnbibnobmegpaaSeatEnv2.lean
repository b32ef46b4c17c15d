/-
  Functions of the program as the abstract machine reads them, and what is stated of them, checked by the kernel. No conditions.
-/
import Derived.Test.YtnnbibnobmegpaaSeatEnv
import Derived.Test.YtnnbibnobmegpaaSeatP
import Derived.WalkKit
set_option linter.unusedVariables false
set_option linter.unusedSimpArgs false

set_option maxRecDepth 1000000
namespace Go.AM
open Go.Proofs Go.AM.X
theorem c5 : compF Try.prog Try.f5 = some a5 := by kernel_rfl
theorem c31 : compF Try.prog Try.f31 = some a31 := by kernel_rfl
theorem c32 : compF Try.prog Try.f32 = some a32 := by kernel_rfl
noncomputable def GL : T AFn := ofT ([(5, a5), (31, a31), (32, a32)] ++ gl)
theorem gOkL : All (GOk Try.prog) ([(5, a5), (31, a31), (32, a32)] ++ gl) := ⟨⟨Try.f5, Try.func5, c5, by kernel_rfl⟩, ⟨Try.f31, Try.func31, c31, by kernel_rfl⟩, ⟨Try.f32, Try.func32, c32, by kernel_rfl⟩, gOk⟩
theorem hasB5 : HasBody Try.prog 5 := ⟨Try.f5, _, Try.func5, rfl, by kernel_rfl⟩
theorem hasB30 : HasBody Try.prog 30 := ⟨Try.f30, _, Try.func30, rfl, by kernel_rfl⟩
theorem hasB32 : HasBody Try.prog 32 := ⟨Try.f32, _, Try.func32, rfl, by kernel_rfl⟩
theorem hasB33 : HasBody Try.prog 33 := ⟨Try.f33, _, Try.func33, rfl, by kernel_rfl⟩
theorem hasB34 : HasBody Try.prog 34 := ⟨Try.f34, _, Try.func34, rfl, by kernel_rfl⟩
theorem hasB35 : HasBody Try.prog 35 := ⟨Try.f35, _, Try.func35, rfl, by kernel_rfl⟩
theorem hasB38 : HasBody Try.prog 38 := ⟨Try.f38, _, Try.func38, rfl, by kernel_rfl⟩
theorem hasB48 : HasBody Try.prog 48 := ⟨Try.f48, _, Try.func48, rfl, by kernel_rfl⟩
theorem hasB50 : HasBody Try.prog 50 := ⟨Try.f50, _, Try.func50, rfl, by kernel_rfl⟩
theorem hasB53 : HasBody Try.prog 53 := ⟨Try.f53, _, Try.func53, rfl, by kernel_rfl⟩
theorem hasB78 : HasBody Try.prog 78 := ⟨Try.f78, _, Try.func78, rfl, by kernel_rfl⟩
theorem hasB79 : HasBody Try.prog 79 := ⟨Try.f79, _, Try.func79, rfl, by kernel_rfl⟩
theorem hasB80 : HasBody Try.prog 80 := ⟨Try.f80, _, Try.func80, rfl, by kernel_rfl⟩
theorem hasB81 : HasBody Try.prog 81 := ⟨Try.f81, _, Try.func81, rfl, by kernel_rfl⟩
theorem hasB83 : HasBody Try.prog 83 := ⟨Try.f83, _, Try.func83, rfl, by kernel_rfl⟩
theorem hasB90 : HasBody Try.prog 90 := ⟨Try.f90, _, Try.func90, rfl, by kernel_rfl⟩
theorem hasB94 : HasBody Try.prog 94 := ⟨Try.f94, _, Try.func94, rfl, by kernel_rfl⟩
theorem hasB95 : HasBody Try.prog 95 := ⟨Try.f95, _, Try.func95, rfl, by kernel_rfl⟩
theorem hasB123 : HasBody Try.prog 123 := ⟨Try.f123, _, Try.func123, rfl, by kernel_rfl⟩
theorem hasB125 : HasBody Try.prog 125 := ⟨Try.f125, _, Try.func125, rfl, by kernel_rfl⟩
theorem hasB132 : HasBody Try.prog 132 := ⟨Try.f132, _, Try.func132, rfl, by kernel_rfl⟩
theorem hasB138 : HasBody Try.prog 138 := ⟨Try.f138, _, Try.func138, rfl, by kernel_rfl⟩
theorem hasB142 : HasBody Try.prog 142 := ⟨Try.f142, _, Try.func142, rfl, by kernel_rfl⟩
theorem hasB169 : HasBody Try.prog 169 := ⟨Try.f169, _, Try.func169, rfl, by kernel_rfl⟩
theorem runAlive14 : isTrue (callA e1 (exec e1 100000) 30 [] St0) = true := by kernel_rfl
noncomputable def eL1 : Env := ⟨GL, .lf, ofT [(134, ovlO)]⟩
theorem eL1_ok : EnvOk Try.prog eL1 := envOk (ol := []) rfl rfl rfl gOkL trivial xOk
theorem alive14_ov : OvOk Try.prog 30 trueO := trueO_ok e1_ok mixed hasB30 runAlive14
theorem grt_ov : OvOk Try.prog 32 grtF.O := grtF_ok eL1_ok mixed  Try.func32 c32 hasB32
theorem cfg_ov : OvOk Try.prog 78 cfgF.O := cfgF_ok eL1_ok mixed ⟨rfl, rfl, by kernel_rfl⟩ Try.func78 c78 hasB78
noncomputable def eL2 : Env := ⟨GL, ofT [(30, trueO), (32, grtF.O), (78, cfgF.O)], ofT [(134, ovlO)]⟩
theorem eL2_ok : EnvOk Try.prog eL2 := envOk rfl rfl rfl gOkL ⟨alive14_ov, grt_ov, cfg_ov, trivial⟩ xOk
theorem told_ov : OvOk Try.prog 83 toldF.O := toldF_ok eL2_ok mixed ⟨rfl, rfl⟩ Try.func83 c83 hasB83
noncomputable def eL3 : Env := ⟨GL, ofT [(30, trueO), (32, grtF.O), (78, cfgF.O), (83, toldF.O)], ofT [(134, ovlO)]⟩
theorem eL3_ok : EnvOk Try.prog eL3 := envOk rfl rfl rfl gOkL ⟨alive14_ov, grt_ov, cfg_ov, told_ov, trivial⟩ xOk
theorem stripes_ov : OvOk Try.prog 38 stripesF.O := stripesF_ok eL3_ok mixed ⟨rfl, rfl⟩ Try.func38 c38 hasB38
theorem need_ov : OvOk Try.prog 53 needF.O := needF_ok eL3_ok mixed ⟨rfl, rfl⟩ Try.func53 c53 hasB53
theorem homes_ov : OvOk Try.prog 123 (ringO anyR homesGv) := homesO_ok eL3_ok mixed ⟨rfl, rfl, by kernel_rfl⟩ Try.func169 c169 hasB169 Try.func123 c123 hasB123
theorem dirty_ov : OvOk Try.prog 125 (ringO anyR dirtyG) := dirtyO_ok eL3_ok mixed  Try.func125 c125 hasB125
noncomputable def eL4 : Env := ⟨GL, ofT [(30, trueO), (32, grtF.O), (78, cfgF.O), (83, toldF.O), (38, stripesF.O), (53, needF.O), (123, (ringO anyR homesGv)), (125, (ringO anyR dirtyG))], ofT [(134, ovlO)]⟩
theorem eL4_ok : EnvOk Try.prog eL4 := envOk rfl rfl rfl gOkL ⟨alive14_ov, grt_ov, cfg_ov, told_ov, stripes_ov, need_ov, homes_ov, dirty_ov, trivial⟩ xOk
theorem room_ov : OvOk Try.prog 81 (ringO mayR (fun r => .bool (roomB r))) := roomO_ok eL4_ok mixed ⟨rfl, rfl⟩ ⟨rfl, rfl⟩ Try.func81 c81 hasB81
noncomputable def eL5 : Env := ⟨GL, ofT [(30, trueO), (32, grtF.O), (78, cfgF.O), (83, toldF.O), (38, stripesF.O), (53, needF.O), (123, (ringO anyR homesGv)), (125, (ringO anyR dirtyG)), (81, (ringO mayR (fun r => .bool (roomB r))))], ofT [(134, ovlO)]⟩
theorem eL5_ok : EnvOk Try.prog eL5 := envOk rfl rfl rfl gOkL ⟨alive14_ov, grt_ov, cfg_ov, told_ov, stripes_ov, need_ov, homes_ov, dirty_ov, room_ov, trivial⟩ xOk
theorem right_ov : OvOk Try.prog 79 (ringO mayR (fun r => .bool (rightB r))) := rightO_ok eL5_ok mixed ⟨rfl, rfl⟩ ⟨rfl, rfl⟩ ⟨rfl, rfl, by kernel_rfl⟩ ⟨rfl, rfl⟩ ⟨rfl, rfl⟩ Try.func79 c79 hasB79
noncomputable def eL6 : Env := ⟨GL, ofT [(30, trueO), (32, grtF.O), (78, cfgF.O), (83, toldF.O), (38, stripesF.O), (53, needF.O), (123, (ringO anyR homesGv)), (125, (ringO anyR dirtyG)), (81, (ringO mayR (fun r => .bool (roomB r)))), (79, (ringO mayR (fun r => .bool (rightB r))))], ofT [(134, ovlO)]⟩
theorem eL6_ok : EnvOk Try.prog eL6 := envOk rfl rfl rfl gOkL ⟨alive14_ov, grt_ov, cfg_ov, told_ov, stripes_ov, need_ov, homes_ov, dirty_ov, room_ov, right_ov, trivial⟩ xOk
theorem lchk_ov : OvOk Try.prog 33 lchkF.O := lchkF_ok eL6_ok mixed ⟨rfl, rfl⟩ ⟨rfl, rfl⟩ Try.func33 c33 hasB33
noncomputable def eL7 : Env := ⟨GL, ofT [(30, trueO), (32, grtF.O), (78, cfgF.O), (83, toldF.O), (38, stripesF.O), (53, needF.O), (123, (ringO anyR homesGv)), (125, (ringO anyR dirtyG)), (81, (ringO mayR (fun r => .bool (roomB r)))), (79, (ringO mayR (fun r => .bool (rightB r)))), (33, lchkF.O)], ofT [(134, ovlO)]⟩
theorem eL7_ok : EnvOk Try.prog eL7 := envOk rfl rfl rfl gOkL ⟨alive14_ov, grt_ov, cfg_ov, told_ov, stripes_ov, need_ov, homes_ov, dirty_ov, room_ov, right_ov, lchk_ov, trivial⟩ xOk
theorem on_ov : OvOk Try.prog 80 onO := onO_ok eL7_ok mixed ⟨rfl, rfl⟩ ⟨rfl, rfl, by kernel_rfl⟩ ⟨rfl, rfl, by kernel_rfl⟩ Try.func80 c80 hasB80
theorem odd94_ov : OvOk Try.prog 94 oddF.O := oddF94_ok eL7_ok mixed  Try.func94 c94 hasB94
noncomputable def eL8 : Env := ⟨GL, ofT [(30, trueO), (32, grtF.O), (78, cfgF.O), (83, toldF.O), (38, stripesF.O), (53, needF.O), (123, (ringO anyR homesGv)), (125, (ringO anyR dirtyG)), (81, (ringO mayR (fun r => .bool (roomB r)))), (79, (ringO mayR (fun r => .bool (rightB r)))), (33, lchkF.O), (80, onO), (94, oddF.O)], ofT [(134, ovlO)]⟩
theorem eL8_ok : EnvOk Try.prog eL8 := envOk rfl rfl rfl gOkL ⟨alive14_ov, grt_ov, cfg_ov, told_ov, stripes_ov, need_ov, homes_ov, dirty_ov, room_ov, right_ov, lchk_ov, on_ov, odd94_ov, trivial⟩ xOk
theorem idx94_ov : OvOk Try.prog 138 (idxF 94).O := idxF_ok eL8_ok mixed 94 ⟨rfl, rfl⟩ Try.func138 c138 hasB138
theorem slots_ov : OvOk Try.prog 95 slotsF.O := slotsF_ok eL8_ok mixed  Try.func95 c95 hasB95
noncomputable def eL9 : Env := ⟨GL, ofT [(30, trueO), (32, grtF.O), (78, cfgF.O), (83, toldF.O), (38, stripesF.O), (53, needF.O), (123, (ringO anyR homesGv)), (125, (ringO anyR dirtyG)), (81, (ringO mayR (fun r => .bool (roomB r)))), (79, (ringO mayR (fun r => .bool (rightB r)))), (33, lchkF.O), (80, onO), (94, oddF.O), (138, (idxF 94).O), (95, slotsF.O)], ofT [(134, ovlO)]⟩
theorem eL9_ok : EnvOk Try.prog eL9 := envOk rfl rfl rfl gOkL ⟨alive14_ov, grt_ov, cfg_ov, told_ov, stripes_ov, need_ov, homes_ov, dirty_ov, room_ov, right_ov, lchk_ov, on_ov, odd94_ov, idx94_ov, slots_ov, trivial⟩ xOk
theorem dchk_ov : OvOk Try.prog 50 dchkF.O := dchkF_ok eL9_ok mixed ⟨rfl, rfl⟩ ⟨rfl, rfl, by kernel_rfl⟩ ⟨rfl, rfl⟩ ⟨rfl, rfl⟩ Try.func50 c50 hasB50
theorem over2_ov : OvOk Try.prog 107 overO := over_ok
theorem nchk_ov : OvOk Try.prog 132 nchkF.O := nchkF_ok eL9_ok mixed  Try.func132 c132 hasB132
theorem put2_ov : OvOk Try.prog 161 putO := put_ok
noncomputable def eL10 : Env := ⟨GL, ofT [(30, trueO), (32, grtF.O), (78, cfgF.O), (83, toldF.O), (38, stripesF.O), (53, needF.O), (123, (ringO anyR homesGv)), (125, (ringO anyR dirtyG)), (81, (ringO mayR (fun r => .bool (roomB r)))), (79, (ringO mayR (fun r => .bool (rightB r)))), (33, lchkF.O), (80, onO), (94, oddF.O), (138, (idxF 94).O), (95, slotsF.O), (50, dchkF.O), (107, overO), (132, nchkF.O), (161, putO)], ofT [(134, ovlO)]⟩
theorem eL10_ok : EnvOk Try.prog eL10 := envOk rfl rfl rfl gOkL ⟨alive14_ov, grt_ov, cfg_ov, told_ov, stripes_ov, need_ov, homes_ov, dirty_ov, room_ov, right_ov, lchk_ov, on_ov, odd94_ov, idx94_ov, slots_ov, dchk_ov, over2_ov, nchk_ov, put2_ov, trivial⟩ xOk
theorem nw_ov : OvOk Try.prog 90 nwF.O := nwF_ok eL10_ok mixed ⟨rfl, rfl⟩ ⟨rfl, rfl, by kernel_rfl⟩ ⟨rfl, rfl⟩ ⟨rfl, rfl, by kernel_rfl⟩ ⟨rfl, rfl, by kernel_rfl⟩ ⟨rfl, rfl⟩ Try.func142 c142 hasB142 Try.func90 c90 hasB90
theorem ins2_ov : OvOk Try.prog 91 insO := ins_ok
noncomputable def eL11 : Env := ⟨GL, ofT [(30, trueO), (32, grtF.O), (78, cfgF.O), (83, toldF.O), (38, stripesF.O), (53, needF.O), (123, (ringO anyR homesGv)), (125, (ringO anyR dirtyG)), (81, (ringO mayR (fun r => .bool (roomB r)))), (79, (ringO mayR (fun r => .bool (rightB r)))), (33, lchkF.O), (80, onO), (94, oddF.O), (138, (idxF 94).O), (95, slotsF.O), (50, dchkF.O), (107, overO), (132, nchkF.O), (161, putO), (90, nwF.O), (91, insO)], ofT [(134, ovlO)]⟩
theorem eL11_ok : EnvOk Try.prog eL11 := envOk rfl rfl rfl gOkL ⟨alive14_ov, grt_ov, cfg_ov, told_ov, stripes_ov, need_ov, homes_ov, dirty_ov, room_ov, right_ov, lchk_ov, on_ov, odd94_ov, idx94_ov, slots_ov, dchk_ov, over2_ov, nchk_ov, put2_ov, nw_ov, ins2_ov, trivial⟩ xOk
theorem blk_ov : OvOk Try.prog 48 blkF.O := blkF_ok eL11_ok mixed ⟨rfl, rfl⟩ ⟨rfl, rfl, by kernel_rfl⟩ ⟨rfl, rfl, by kernel_rfl⟩ ⟨rfl, rfl, by kernel_rfl⟩ ⟨rfl, rfl⟩ ⟨rfl, rfl⟩ ⟨rfl, rfl⟩ Try.func48 c48 hasB48
theorem dialon_ov : OvOk Try.prog 35 onF.O := onF_ok eL11_ok mixed ⟨rfl, rfl, by kernel_rfl⟩ ⟨rfl, rfl, by kernel_rfl⟩ Try.func35 c35 hasB35
noncomputable def eL12 : Env := ⟨GL, ofT [(30, trueO), (32, grtF.O), (78, cfgF.O), (83, toldF.O), (38, stripesF.O), (53, needF.O), (123, (ringO anyR homesGv)), (125, (ringO anyR dirtyG)), (81, (ringO mayR (fun r => .bool (roomB r)))), (79, (ringO mayR (fun r => .bool (rightB r)))), (33, lchkF.O), (80, onO), (94, oddF.O), (138, (idxF 94).O), (95, slotsF.O), (50, dchkF.O), (107, overO), (132, nchkF.O), (161, putO), (90, nwF.O), (91, insO), (48, blkF.O), (35, onF.O)], ofT [(134, ovlO)]⟩
theorem eL12_ok : EnvOk Try.prog eL12 := envOk rfl rfl rfl gOkL ⟨alive14_ov, grt_ov, cfg_ov, told_ov, stripes_ov, need_ov, homes_ov, dirty_ov, room_ov, right_ov, lchk_ov, on_ov, odd94_ov, idx94_ov, slots_ov, dchk_ov, over2_ov, nchk_ov, put2_ov, nw_ov, ins2_ov, blk_ov, dialon_ov, trivial⟩ xOk
theorem ladd_ov : OvOk Try.prog 34 addF.O := addF_ok eL12_ok mixed ⟨rfl, rfl⟩ ⟨rfl, rfl⟩ ⟨rfl, rfl⟩ ⟨rfl, rfl⟩ ⟨rfl, rfl⟩ Try.func34 c34 hasB34
noncomputable def eL13 : Env := ⟨GL, ofT [(30, trueO), (32, grtF.O), (78, cfgF.O), (83, toldF.O), (38, stripesF.O), (53, needF.O), (123, (ringO anyR homesGv)), (125, (ringO anyR dirtyG)), (81, (ringO mayR (fun r => .bool (roomB r)))), (79, (ringO mayR (fun r => .bool (rightB r)))), (33, lchkF.O), (80, onO), (94, oddF.O), (138, (idxF 94).O), (95, slotsF.O), (50, dchkF.O), (107, overO), (132, nchkF.O), (161, putO), (90, nwF.O), (91, insO), (48, blkF.O), (35, onF.O), (34, addF.O)], ofT [(134, ovlO)]⟩
theorem eL13_ok : EnvOk Try.prog eL13 := envOk rfl rfl rfl gOkL ⟨alive14_ov, grt_ov, cfg_ov, told_ov, stripes_ov, need_ov, homes_ov, dirty_ov, room_ov, right_ov, lchk_ov, on_ov, odd94_ov, idx94_ov, slots_ov, dchk_ov, over2_ov, nchk_ov, put2_ov, nw_ov, ins2_ov, blk_ov, dialon_ov, ladd_ov, trivial⟩ xOk
theorem inLogRoom : LRIn eL13 := ⟨⟨rfl, rfl⟩, ⟨rfl, rfl, by kernel_rfl⟩, ⟨rfl, rfl⟩, ⟨rfl, rfl⟩, ⟨rfl, rfl⟩⟩
theorem logRoom_C (c : Cfg) (ag sq tl us : Int) (L : List Lv) (v : AV) (d : DB) (hc : c.ok) (h1 : u32B ag) (h2 : u32B sq) (h3 : i64B tl) (h4 : i64B us) (hv : LSl L v) (hL : ∀ x ∈ L, x.ok) (hd : d.any) :
    C Try.prog 5 [c.v, .agg [.int .u32 ag, .int .u32 sq, .int .i64 tl, .int .i64 us, v], d.d.v] St0 (fun u _ => u = .bool true) :=
  C.of_V eL13_ok mixed Try.func5 c5 (room_law Try.prog eL13 eL13_ok mixed inLogRoom c ag sq tl us L v hv d hd (fun hl => ⟨hc, ⟨h1, h2, h3, h4, hL, hl⟩, hv⟩))
end Go.AM
