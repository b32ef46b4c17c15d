/-
 Functions of the program as the abstract machine reads them, and what is stated of them, checked by the kernel. No conditions.
-/
import Derived.Test.YtnnbibnobmegpaaSeatEnv
import Derived.Test.YtnnbibnobmegpaaSeatP
import Derived.Test.YtnnbibnobmegpaaSeatQ
import Derived.Test.YtnnbibnobmegpaaSeatX
import Derived.WalkKit
set_option linter.unusedVariables false
set_option linter.unusedSimpArgs false
set_option maxRecDepth 1000000
namespace Go.AM
open Go.Proofs Go.AM.X
theorem c3 : compF Try.prog Try.f3 = some a3 := by kernel_rfl
theorem c21 : compF Try.prog Try.f21 = some a21 := by kernel_rfl
theorem c22 : compF Try.prog Try.f22 = some a22 := by kernel_rfl
theorem c23 : compF Try.prog Try.f23 = some a23 := by kernel_rfl
theorem c24 : compF Try.prog Try.f24 = some a24 := by kernel_rfl
theorem c25 : compF Try.prog Try.f25 = some a25 := by kernel_rfl
theorem c26 : compF Try.prog Try.f26 = some a26 := by kernel_rfl
theorem c35 : compF Try.prog Try.f35 = some a35 := by kernel_rfl
theorem c38 : compF Try.prog Try.f38 = some a38 := by kernel_rfl
theorem c50 : compF Try.prog Try.f50 = some a50 := by kernel_rfl
theorem c51 : compF Try.prog Try.f51 = some a51 := by kernel_rfl
theorem c52 : compF Try.prog Try.f52 = some a52 := by kernel_rfl
theorem c65 : compF Try.prog Try.f65 = some a65 := by kernel_rfl
theorem c66 : compF Try.prog Try.f66 = some a66 := by kernel_rfl
theorem c67 : compF Try.prog Try.f67 = some a67 := by kernel_rfl
theorem c68 : compF Try.prog Try.f68 = some a68 := by kernel_rfl
theorem c69 : compF Try.prog Try.f69 = some a69 := by kernel_rfl
theorem c70 : compF Try.prog Try.f70 = some a70 := by kernel_rfl
theorem c71 : compF Try.prog Try.f71 = some a71 := by kernel_rfl
theorem c72 : compF Try.prog Try.f72 = some a72 := by kernel_rfl
theorem c78 : compF Try.prog Try.f78 = some a78 := by kernel_rfl
theorem c82 : compF Try.prog Try.f82 = some a82 := by kernel_rfl
theorem c83 : compF Try.prog Try.f83 = some a83 := by kernel_rfl
theorem c90 : compF Try.prog Try.f90 = some a90 := by kernel_rfl
theorem c93 : compF Try.prog Try.f93 = some a93 := by kernel_rfl
theorem c94 : compF Try.prog Try.f94 = some a94 := by kernel_rfl
theorem c95 : compF Try.prog Try.f95 = some a95 := by kernel_rfl
theorem c96 : compF Try.prog Try.f96 = some a96 := by kernel_rfl
theorem c97 : compF Try.prog Try.f97 = some a97 := by kernel_rfl
theorem c98 : compF Try.prog Try.f98 = some a98 := by kernel_rfl
theorem c99 : compF Try.prog Try.f99 = some a99 := by kernel_rfl
theorem c100 : compF Try.prog Try.f100 = some a100 := by kernel_rfl
theorem c101 : compF Try.prog Try.f101 = some a101 := by kernel_rfl
theorem c104 : compF Try.prog Try.f104 = some a104 := by kernel_rfl
theorem c105 : compF Try.prog Try.f105 = some a105 := by kernel_rfl
theorem c106 : compF Try.prog Try.f106 = some a106 := by kernel_rfl
theorem c108 : compF Try.prog Try.f108 = some a108 := by kernel_rfl
theorem c109 : compF Try.prog Try.f109 = some a109 := by kernel_rfl
theorem c110 : compF Try.prog Try.f110 = some a110 := by kernel_rfl
theorem c111 : compF Try.prog Try.f111 = some a111 := by kernel_rfl
theorem c112 : compF Try.prog Try.f112 = some a112 := by kernel_rfl
theorem c113 : compF Try.prog Try.f113 = some a113 := by kernel_rfl
theorem c114 : compF Try.prog Try.f114 = some a114 := by kernel_rfl
theorem c115 : compF Try.prog Try.f115 = some a115 := by kernel_rfl
theorem c116 : compF Try.prog Try.f116 = some a116 := by kernel_rfl
theorem c120 : compF Try.prog Try.f120 = some a120 := by kernel_rfl
theorem c121 : compF Try.prog Try.f121 = some a121 := by kernel_rfl
theorem c126 : compF Try.prog Try.f126 = some a126 := by kernel_rfl
theorem c132 : compF Try.prog Try.f132 = some a132 := by kernel_rfl
theorem c133 : compF Try.prog Try.f133 = some a133 := by kernel_rfl
theorem c138 : compF Try.prog Try.f138 = some a138 := by kernel_rfl
theorem c139 : compF Try.prog Try.f139 = some a139 := by kernel_rfl
theorem c140 : compF Try.prog Try.f140 = some a140 := by kernel_rfl
theorem c141 : compF Try.prog Try.f141 = some a141 := by kernel_rfl
theorem c142 : compF Try.prog Try.f142 = some a142 := by kernel_rfl
theorem c143 : compF Try.prog Try.f143 = some a143 := by kernel_rfl
theorem c144 : compF Try.prog Try.f144 = some a144 := by kernel_rfl
theorem c145 : compF Try.prog Try.f145 = some a145 := by kernel_rfl
theorem c146 : compF Try.prog Try.f146 = some a146 := by kernel_rfl
theorem c148 : compF Try.prog Try.f148 = some a148 := by kernel_rfl
theorem c149 : compF Try.prog Try.f149 = some a149 := by kernel_rfl
theorem c150 : compF Try.prog Try.f150 = some a150 := by kernel_rfl
theorem c151 : compF Try.prog Try.f151 = some a151 := by kernel_rfl
theorem c152 : compF Try.prog Try.f152 = some a152 := by kernel_rfl
theorem c153 : compF Try.prog Try.f153 = some a153 := by kernel_rfl
theorem c154 : compF Try.prog Try.f154 = some a154 := by kernel_rfl
theorem c155 : compF Try.prog Try.f155 = some a155 := by kernel_rfl
theorem c158 : compF Try.prog Try.f158 = some a158 := by kernel_rfl
theorem c163 : compF Try.prog Try.f163 = some a163 := by kernel_rfl
theorem c164 : compF Try.prog Try.f164 = some a164 := by kernel_rfl
theorem c165 : compF Try.prog Try.f165 = some a165 := by kernel_rfl
theorem c166 : compF Try.prog Try.f166 = some a166 := by kernel_rfl
theorem c167 : compF Try.prog Try.f167 = some a167 := by kernel_rfl
theorem c168 : compF Try.prog Try.f168 = some a168 := by kernel_rfl
theorem c171 : compF Try.prog Try.f171 = some a171 := by kernel_rfl
noncomputable def GL : T AFn := ofT ([(3, a3), (21, a21), (22, a22), (23, a23), (24, a24), (25, a25), (26, a26), (35, a35), (38, a38), (50, a50), (51, a51), (52, a52), (65, a65), (66, a66), (67, a67), (68, a68), (69, a69), (70, a70), (71, a71), (72, a72), (78, a78), (82, a82), (83, a83), (90, a90), (93, a93), (94, a94), (95, a95), (96, a96), (97, a97), (98, a98), (99, a99), (100, a100), (101, a101), (104, a104), (105, a105), (106, a106), (108, a108), (109, a109), (110, a110), (111, a111), (112, a112), (113, a113), (114, a114), (115, a115), (116, a116), (120, a120), (121, a121), (126, a126), (132, a132), (133, a133), (138, a138), (139, a139), (140, a140), (141, a141), (142, a142), (143, a143), (144, a144), (145, a145), (146, a146), (148, a148), (149, a149), (150, a150), (151, a151), (152, a152), (153, a153), (154, a154), (155, a155), (158, a158), (163, a163), (164, a164), (165, a165), (166, a166), (167, a167), (168, a168), (171, a171)] ++ gl)
theorem gOkL : All (GOk Try.prog) ([(3, a3), (21, a21), (22, a22), (23, a23), (24, a24), (25, a25), (26, a26), (35, a35), (38, a38), (50, a50), (51, a51), (52, a52), (65, a65), (66, a66), (67, a67), (68, a68), (69, a69), (70, a70), (71, a71), (72, a72), (78, a78), (82, a82), (83, a83), (90, a90), (93, a93), (94, a94), (95, a95), (96, a96), (97, a97), (98, a98), (99, a99), (100, a100), (101, a101), (104, a104), (105, a105), (106, a106), (108, a108), (109, a109), (110, a110), (111, a111), (112, a112), (113, a113), (114, a114), (115, a115), (116, a116), (120, a120), (121, a121), (126, a126), (132, a132), (133, a133), (138, a138), (139, a139), (140, a140), (141, a141), (142, a142), (143, a143), (144, a144), (145, a145), (146, a146), (148, a148), (149, a149), (150, a150), (151, a151), (152, a152), (153, a153), (154, a154), (155, a155), (158, a158), (163, a163), (164, a164), (165, a165), (166, a166), (167, a167), (168, a168), (171, a171)] ++ gl) := ⟨⟨Try.f3, Try.func3, c3, by kernel_rfl⟩, ⟨Try.f21, Try.func21, c21, by kernel_rfl⟩, ⟨Try.f22, Try.func22, c22, by kernel_rfl⟩, ⟨Try.f23, Try.func23, c23, by kernel_rfl⟩, ⟨Try.f24, Try.func24, c24, by kernel_rfl⟩, ⟨Try.f25, Try.func25, c25, by kernel_rfl⟩, ⟨Try.f26, Try.func26, c26, by kernel_rfl⟩, ⟨Try.f35, Try.func35, c35, by kernel_rfl⟩, ⟨Try.f38, Try.func38, c38, by kernel_rfl⟩, ⟨Try.f50, Try.func50, c50, by kernel_rfl⟩, ⟨Try.f51, Try.func51, c51, by kernel_rfl⟩, ⟨Try.f52, Try.func52, c52, by kernel_rfl⟩, ⟨Try.f65, Try.func65, c65, by kernel_rfl⟩, ⟨Try.f66, Try.func66, c66, by kernel_rfl⟩, ⟨Try.f67, Try.func67, c67, by kernel_rfl⟩, ⟨Try.f68, Try.func68, c68, by kernel_rfl⟩, ⟨Try.f69, Try.func69, c69, by kernel_rfl⟩, ⟨Try.f70, Try.func70, c70, by kernel_rfl⟩, ⟨Try.f71, Try.func71, c71, by kernel_rfl⟩, ⟨Try.f72, Try.func72, c72, by kernel_rfl⟩, ⟨Try.f78, Try.func78, c78, by kernel_rfl⟩, ⟨Try.f82, Try.func82, c82, by kernel_rfl⟩, ⟨Try.f83, Try.func83, c83, by kernel_rfl⟩, ⟨Try.f90, Try.func90, c90, by kernel_rfl⟩, ⟨Try.f93, Try.func93, c93, by kernel_rfl⟩, ⟨Try.f94, Try.func94, c94, by kernel_rfl⟩, ⟨Try.f95, Try.func95, c95, by kernel_rfl⟩, ⟨Try.f96, Try.func96, c96, by kernel_rfl⟩, ⟨Try.f97, Try.func97, c97, by kernel_rfl⟩, ⟨Try.f98, Try.func98, c98, by kernel_rfl⟩, ⟨Try.f99, Try.func99, c99, by kernel_rfl⟩, ⟨Try.f100, Try.func100, c100, by kernel_rfl⟩, ⟨Try.f101, Try.func101, c101, by kernel_rfl⟩, ⟨Try.f104, Try.func104, c104, by kernel_rfl⟩, ⟨Try.f105, Try.func105, c105, by kernel_rfl⟩, ⟨Try.f106, Try.func106, c106, by kernel_rfl⟩, ⟨Try.f108, Try.func108, c108, by kernel_rfl⟩, ⟨Try.f109, Try.func109, c109, by kernel_rfl⟩, ⟨Try.f110, Try.func110, c110, by kernel_rfl⟩, ⟨Try.f111, Try.func111, c111, by kernel_rfl⟩, ⟨Try.f112, Try.func112, c112, by kernel_rfl⟩, ⟨Try.f113, Try.func113, c113, by kernel_rfl⟩, ⟨Try.f114, Try.func114, c114, by kernel_rfl⟩, ⟨Try.f115, Try.func115, c115, by kernel_rfl⟩, ⟨Try.f116, Try.func116, c116, by kernel_rfl⟩, ⟨Try.f120, Try.func120, c120, by kernel_rfl⟩, ⟨Try.f121, Try.func121, c121, by kernel_rfl⟩, ⟨Try.f126, Try.func126, c126, by kernel_rfl⟩, ⟨Try.f132, Try.func132, c132, by kernel_rfl⟩, ⟨Try.f133, Try.func133, c133, by kernel_rfl⟩, ⟨Try.f138, Try.func138, c138, by kernel_rfl⟩, ⟨Try.f139, Try.func139, c139, by kernel_rfl⟩, ⟨Try.f140, Try.func140, c140, by kernel_rfl⟩, ⟨Try.f141, Try.func141, c141, by kernel_rfl⟩, ⟨Try.f142, Try.func142, c142, by kernel_rfl⟩, ⟨Try.f143, Try.func143, c143, by kernel_rfl⟩, ⟨Try.f144, Try.func144, c144, by kernel_rfl⟩, ⟨Try.f145, Try.func145, c145, by kernel_rfl⟩, ⟨Try.f146, Try.func146, c146, by kernel_rfl⟩, ⟨Try.f148, Try.func148, c148, by kernel_rfl⟩, ⟨Try.f149, Try.func149, c149, by kernel_rfl⟩, ⟨Try.f150, Try.func150, c150, by kernel_rfl⟩, ⟨Try.f151, Try.func151, c151, by kernel_rfl⟩, ⟨Try.f152, Try.func152, c152, by kernel_rfl⟩, ⟨Try.f153, Try.func153, c153, by kernel_rfl⟩, ⟨Try.f154, Try.func154, c154, by kernel_rfl⟩, ⟨Try.f155, Try.func155, c155, by kernel_rfl⟩, ⟨Try.f158, Try.func158, c158, by kernel_rfl⟩, ⟨Try.f163, Try.func163, c163, by kernel_rfl⟩, ⟨Try.f164, Try.func164, c164, by kernel_rfl⟩, ⟨Try.f165, Try.func165, c165, by kernel_rfl⟩, ⟨Try.f166, Try.func166, c166, by kernel_rfl⟩, ⟨Try.f167, Try.func167, c167, by kernel_rfl⟩, ⟨Try.f168, Try.func168, c168, by kernel_rfl⟩, ⟨Try.f171, Try.func171, c171, by kernel_rfl⟩, gOk⟩
theorem hasB3 : HasBody Try.prog 3 := ⟨Try.f3, _, Try.func3, rfl, by kernel_rfl⟩
theorem hasB21 : HasBody Try.prog 21 := ⟨Try.f21, _, Try.func21, rfl, by kernel_rfl⟩
theorem hasB22 : HasBody Try.prog 22 := ⟨Try.f22, _, Try.func22, rfl, by kernel_rfl⟩
theorem hasB23 : HasBody Try.prog 23 := ⟨Try.f23, _, Try.func23, rfl, by kernel_rfl⟩
theorem hasB24 : HasBody Try.prog 24 := ⟨Try.f24, _, Try.func24, rfl, by kernel_rfl⟩
theorem hasB25 : HasBody Try.prog 25 := ⟨Try.f25, _, Try.func25, rfl, by kernel_rfl⟩
theorem hasB26 : HasBody Try.prog 26 := ⟨Try.f26, _, Try.func26, rfl, by kernel_rfl⟩
theorem hasB35 : HasBody Try.prog 35 := ⟨Try.f35, _, Try.func35, rfl, by kernel_rfl⟩
theorem hasB38 : HasBody Try.prog 38 := ⟨Try.f38, _, Try.func38, rfl, by kernel_rfl⟩
theorem hasB50 : HasBody Try.prog 50 := ⟨Try.f50, _, Try.func50, rfl, by kernel_rfl⟩
theorem hasB51 : HasBody Try.prog 51 := ⟨Try.f51, _, Try.func51, rfl, by kernel_rfl⟩
theorem hasB52 : HasBody Try.prog 52 := ⟨Try.f52, _, Try.func52, rfl, by kernel_rfl⟩
theorem hasB65 : HasBody Try.prog 65 := ⟨Try.f65, _, Try.func65, rfl, by kernel_rfl⟩
theorem hasB68 : HasBody Try.prog 68 := ⟨Try.f68, _, Try.func68, rfl, by kernel_rfl⟩
theorem hasB69 : HasBody Try.prog 69 := ⟨Try.f69, _, Try.func69, rfl, by kernel_rfl⟩
theorem hasB70 : HasBody Try.prog 70 := ⟨Try.f70, _, Try.func70, rfl, by kernel_rfl⟩
theorem hasB71 : HasBody Try.prog 71 := ⟨Try.f71, _, Try.func71, rfl, by kernel_rfl⟩
theorem hasB72 : HasBody Try.prog 72 := ⟨Try.f72, _, Try.func72, rfl, by kernel_rfl⟩
theorem hasB78 : HasBody Try.prog 78 := ⟨Try.f78, _, Try.func78, rfl, by kernel_rfl⟩
theorem hasB83 : HasBody Try.prog 83 := ⟨Try.f83, _, Try.func83, rfl, by kernel_rfl⟩
theorem hasB90 : HasBody Try.prog 90 := ⟨Try.f90, _, Try.func90, rfl, by kernel_rfl⟩
theorem hasB94 : HasBody Try.prog 94 := ⟨Try.f94, _, Try.func94, rfl, by kernel_rfl⟩
theorem hasB95 : HasBody Try.prog 95 := ⟨Try.f95, _, Try.func95, rfl, by kernel_rfl⟩
theorem hasB101 : HasBody Try.prog 101 := ⟨Try.f101, _, Try.func101, rfl, by kernel_rfl⟩
theorem hasB104 : HasBody Try.prog 104 := ⟨Try.f104, _, Try.func104, rfl, by kernel_rfl⟩
theorem hasB106 : HasBody Try.prog 106 := ⟨Try.f106, _, Try.func106, rfl, by kernel_rfl⟩
theorem hasB110 : HasBody Try.prog 110 := ⟨Try.f110, _, Try.func110, rfl, by kernel_rfl⟩
theorem hasB112 : HasBody Try.prog 112 := ⟨Try.f112, _, Try.func112, rfl, by kernel_rfl⟩
theorem hasB113 : HasBody Try.prog 113 := ⟨Try.f113, _, Try.func113, rfl, by kernel_rfl⟩
theorem hasB114 : HasBody Try.prog 114 := ⟨Try.f114, _, Try.func114, rfl, by kernel_rfl⟩
theorem hasB115 : HasBody Try.prog 115 := ⟨Try.f115, _, Try.func115, rfl, by kernel_rfl⟩
theorem hasB116 : HasBody Try.prog 116 := ⟨Try.f116, _, Try.func116, rfl, by kernel_rfl⟩
theorem hasB120 : HasBody Try.prog 120 := ⟨Try.f120, _, Try.func120, rfl, by kernel_rfl⟩
theorem hasB132 : HasBody Try.prog 132 := ⟨Try.f132, _, Try.func132, rfl, by kernel_rfl⟩
theorem hasB138 : HasBody Try.prog 138 := ⟨Try.f138, _, Try.func138, rfl, by kernel_rfl⟩
theorem hasB140 : HasBody Try.prog 140 := ⟨Try.f140, _, Try.func140, rfl, by kernel_rfl⟩
theorem hasB142 : HasBody Try.prog 142 := ⟨Try.f142, _, Try.func142, rfl, by kernel_rfl⟩
theorem hasB143 : HasBody Try.prog 143 := ⟨Try.f143, _, Try.func143, rfl, by kernel_rfl⟩
theorem hasB148 : HasBody Try.prog 148 := ⟨Try.f148, _, Try.func148, rfl, by kernel_rfl⟩
theorem hasB149 : HasBody Try.prog 149 := ⟨Try.f149, _, Try.func149, rfl, by kernel_rfl⟩
theorem hasB150 : HasBody Try.prog 150 := ⟨Try.f150, _, Try.func150, rfl, by kernel_rfl⟩
theorem hasB151 : HasBody Try.prog 151 := ⟨Try.f151, _, Try.func151, rfl, by kernel_rfl⟩
theorem hasB152 : HasBody Try.prog 152 := ⟨Try.f152, _, Try.func152, rfl, by kernel_rfl⟩
theorem hasB153 : HasBody Try.prog 153 := ⟨Try.f153, _, Try.func153, rfl, by kernel_rfl⟩
theorem hasB155 : HasBody Try.prog 155 := ⟨Try.f155, _, Try.func155, rfl, by kernel_rfl⟩
theorem hasB163 : HasBody Try.prog 163 := ⟨Try.f163, _, Try.func163, rfl, by kernel_rfl⟩
theorem hasB165 : HasBody Try.prog 165 := ⟨Try.f165, _, Try.func165, rfl, by kernel_rfl⟩
theorem hasB166 : HasBody Try.prog 166 := ⟨Try.f166, _, Try.func166, rfl, by kernel_rfl⟩
theorem hasB167 : HasBody Try.prog 167 := ⟨Try.f167, _, Try.func167, rfl, by kernel_rfl⟩
theorem hasB168 : HasBody Try.prog 168 := ⟨Try.f168, _, Try.func168, rfl, by kernel_rfl⟩
theorem hasB171 : HasBody Try.prog 171 := ⟨Try.f171, _, Try.func171, rfl, by kernel_rfl⟩
noncomputable def eL1 : Env := ⟨GL, .lf, ofT [(134, ovlO)]⟩
theorem eL1_ok : EnvOk Try.prog eL1 := envOk (ol := []) rfl rfl rfl gOkL trivial xOk
theorem cfg_ov : OvOk Try.prog 78 cfgF.O := cfgF_ok eL1_ok mixed ⟨rfl, rfl, by kernel_rfl⟩ Try.func78 c78 hasB78
noncomputable def eL2 : Env := ⟨GL, ofT [(78, cfgF.O)], ofT [(134, ovlO)]⟩
theorem eL2_ok : EnvOk Try.prog eL2 := envOk rfl rfl rfl gOkL ⟨cfg_ov, trivial⟩ xOk
theorem told_ov : OvOk Try.prog 83 toldF.O := toldF_ok eL2_ok mixed ⟨rfl, rfl⟩ Try.func83 c83 hasB83
noncomputable def eL3 : Env := ⟨GL, ofT [(78, cfgF.O), (83, toldF.O)], ofT [(134, ovlO)]⟩
theorem eL3_ok : EnvOk Try.prog eL3 := envOk rfl rfl rfl gOkL ⟨cfg_ov, told_ov, trivial⟩ xOk
theorem stripes_ov : OvOk Try.prog 38 stripesF.O := stripesF_ok eL3_ok mixed ⟨rfl, rfl⟩ Try.func38 c38 hasB38
theorem odd94_ov : OvOk Try.prog 94 oddF.O := oddF94_ok eL3_ok mixed  Try.func94 c94 hasB94
noncomputable def eL4 : Env := ⟨GL, ofT [(78, cfgF.O), (83, toldF.O), (38, stripesF.O), (94, oddF.O)], ofT [(134, ovlO)]⟩
theorem eL4_ok : EnvOk Try.prog eL4 := envOk rfl rfl rfl gOkL ⟨cfg_ov, told_ov, stripes_ov, odd94_ov, trivial⟩ xOk
theorem idx94_ov : OvOk Try.prog 138 (idxF 94).O := idxF_ok eL4_ok mixed 94 ⟨rfl, rfl⟩ Try.func138 c138 hasB138
theorem slots_ov : OvOk Try.prog 95 slotsF.O := slotsF_ok eL4_ok mixed  Try.func95 c95 hasB95
noncomputable def eL5 : Env := ⟨GL, ofT [(78, cfgF.O), (83, toldF.O), (38, stripesF.O), (94, oddF.O), (138, (idxF 94).O), (95, slotsF.O)], ofT [(134, ovlO)]⟩
theorem eL5_ok : EnvOk Try.prog eL5 := envOk rfl rfl rfl gOkL ⟨cfg_ov, told_ov, stripes_ov, odd94_ov, idx94_ov, slots_ov, trivial⟩ xOk
theorem dchk_ov : OvOk Try.prog 50 dchkF.O := dchkF_ok eL5_ok mixed ⟨rfl, rfl⟩ ⟨rfl, rfl, by kernel_rfl⟩ ⟨rfl, rfl⟩ ⟨rfl, rfl⟩ Try.func50 c50 hasB50
theorem dialon_ov : OvOk Try.prog 35 onF.O := onF_ok eL5_ok mixed ⟨rfl, rfl, by kernel_rfl⟩ ⟨rfl, rfl, by kernel_rfl⟩ Try.func35 c35 hasB35
theorem take2_ov : OvOk Try.prog 86 takeO := take_ok
theorem nchk_ov : OvOk Try.prog 132 nchkF.O := nchkF_ok eL5_ok mixed  Try.func132 c132 hasB132
theorem put2_ov : OvOk Try.prog 161 putO := put_ok
theorem over2_ov : OvOk Try.prog 107 overO := over_ok
noncomputable def eL6 : Env := ⟨GL, ofT [(78, cfgF.O), (83, toldF.O), (38, stripesF.O), (94, oddF.O), (138, (idxF 94).O), (95, slotsF.O), (50, dchkF.O), (35, onF.O), (86, takeO), (132, nchkF.O), (161, putO), (107, overO)], ofT [(134, ovlO)]⟩
theorem eL6_ok : EnvOk Try.prog eL6 := envOk rfl rfl rfl gOkL ⟨cfg_ov, told_ov, stripes_ov, odd94_ov, idx94_ov, slots_ov, dchk_ov, dialon_ov, take2_ov, nchk_ov, put2_ov, over2_ov, trivial⟩ xOk
theorem nw_ov : OvOk Try.prog 90 nwF.O := nwF_ok eL6_ok mixed ⟨rfl, rfl⟩ ⟨rfl, rfl, by kernel_rfl⟩ ⟨rfl, rfl⟩ ⟨rfl, rfl, by kernel_rfl⟩ ⟨rfl, rfl, by kernel_rfl⟩ ⟨rfl, rfl⟩ Try.func142 c142 hasB142 Try.func90 c90 hasB90
noncomputable def eL7 : Env := ⟨GL, ofT [(78, cfgF.O), (83, toldF.O), (38, stripesF.O), (94, oddF.O), (138, (idxF 94).O), (95, slotsF.O), (50, dchkF.O), (35, onF.O), (86, takeO), (132, nchkF.O), (161, putO), (107, overO), (90, nwF.O)], ofT [(134, ovlO)]⟩
theorem eL7_ok : EnvOk Try.prog eL7 := envOk rfl rfl rfl gOkL ⟨cfg_ov, told_ov, stripes_ov, odd94_ov, idx94_ov, slots_ov, dchk_ov, dialon_ov, take2_ov, nchk_ov, put2_ov, over2_ov, nw_ov, trivial⟩ xOk
theorem nd_ov : OvOk Try.prog 52 ndF.O := ndF_ok eL7_ok mixed ⟨rfl, rfl⟩ ⟨rfl, rfl, by kernel_rfl⟩ ⟨rfl, rfl, by kernel_rfl⟩ ⟨rfl, rfl⟩ Try.func142 c142 hasB142 Try.func52 c52 hasB52
theorem odd143_ov : OvOk Try.prog 143 oddF.O := oddF143_ok eL7_ok mixed  Try.func143 c143 hasB143
noncomputable def eL8 : Env := ⟨GL, ofT [(78, cfgF.O), (83, toldF.O), (38, stripesF.O), (94, oddF.O), (138, (idxF 94).O), (95, slotsF.O), (50, dchkF.O), (35, onF.O), (86, takeO), (132, nchkF.O), (161, putO), (107, overO), (90, nwF.O), (52, ndF.O), (143, oddF.O)], ofT [(134, ovlO)]⟩
theorem eL8_ok : EnvOk Try.prog eL8 := envOk rfl rfl rfl gOkL ⟨cfg_ov, told_ov, stripes_ov, odd94_ov, idx94_ov, slots_ov, dchk_ov, dialon_ov, take2_ov, nchk_ov, put2_ov, over2_ov, nw_ov, nd_ov, odd143_ov, trivial⟩ xOk
theorem dski_ov : OvOk Try.prog 138 dskI := dskI_ok eL8_ok mixed ⟨rfl, rfl⟩ ⟨rfl, rfl, by kernel_rfl⟩ Try.func138 c138 hasB138
theorem widx_ov : OvOk Try.prog 163 widxO := widxO_ok eL8_ok mixed ⟨rfl, rfl⟩ ⟨rfl, rfl, by kernel_rfl⟩ Try.func163 c163 hasB163
noncomputable def eL9 : Env := ⟨GL, ofT [(78, cfgF.O), (83, toldF.O), (38, stripesF.O), (94, oddF.O), (138, dskI), (95, slotsF.O), (50, dchkF.O), (35, onF.O), (86, takeO), (132, nchkF.O), (161, putO), (107, overO), (90, nwF.O), (52, ndF.O), (143, oddF.O), (163, widxO)], ofT [(134, ovlO)]⟩
theorem eL9_ok : EnvOk Try.prog eL9 := envOk rfl rfl rfl gOkL ⟨cfg_ov, told_ov, stripes_ov, odd94_ov, dski_ov, slots_ov, dchk_ov, dialon_ov, take2_ov, nchk_ov, put2_ov, over2_ov, nw_ov, nd_ov, odd143_ov, widx_ov, trivial⟩ xOk
theorem dsk_ov : OvOk Try.prog 101 dskF.O := dskF_ok eL9_ok mixed ⟨rfl, rfl, by kernel_rfl⟩ ⟨rfl, rfl⟩ ⟨rfl, rfl, by kernel_rfl⟩ ⟨rfl, rfl⟩ Try.func101 c101 hasB101
noncomputable def eL10 : Env := ⟨GL, ofT [(78, cfgF.O), (83, toldF.O), (38, stripesF.O), (94, oddF.O), (138, dskI), (95, slotsF.O), (50, dchkF.O), (35, onF.O), (86, takeO), (132, nchkF.O), (161, putO), (107, overO), (90, nwF.O), (52, ndF.O), (143, oddF.O), (163, widxO), (101, dskF.O)], ofT [(134, ovlO)]⟩
theorem eL10_ok : EnvOk Try.prog eL10 := envOk rfl rfl rfl gOkL ⟨cfg_ov, told_ov, stripes_ov, odd94_ov, dski_ov, slots_ov, dchk_ov, dialon_ov, take2_ov, nchk_ov, put2_ov, over2_ov, nw_ov, nd_ov, odd143_ov, widx_ov, dsk_ov, trivial⟩ xOk
theorem drdf_ov : OvOk Try.prog 51 drdF.O := drdF_ok eL10_ok mixed ⟨rfl, rfl⟩ ⟨rfl, rfl, by kernel_rfl⟩ ⟨rfl, rfl, by kernel_rfl⟩ ⟨rfl, rfl, by kernel_rfl⟩ ⟨rfl, rfl, by kernel_rfl⟩ ⟨rfl, rfl, by kernel_rfl⟩ Try.func140 c140 hasB140 Try.func51 c51 hasB51
theorem drdo_ov : OvOk Try.prog 51 drdO := drdO_ok eL10_ok mixed ⟨rfl, rfl⟩ ⟨rfl, rfl, by kernel_rfl⟩ ⟨rfl, rfl, by kernel_rfl⟩ ⟨rfl, rfl, by kernel_rfl⟩ ⟨rfl, rfl, by kernel_rfl⟩ ⟨rfl, rfl, by kernel_rfl⟩ Try.func140 c140 hasB140 Try.func51 c51 hasB51
theorem journal_ov : OvOk Try.prog 104 journalF.O := journalF_ok eL10_ok mixed ⟨rfl, rfl⟩ Try.func104 c104 hasB104
noncomputable def eL11 : Env := ⟨GL, ofT [(78, cfgF.O), (83, toldF.O), (38, stripesF.O), (94, oddF.O), (138, dskI), (95, slotsF.O), (50, dchkF.O), (35, onF.O), (86, takeO), (132, nchkF.O), (161, putO), (107, overO), (90, nwF.O), (52, ndF.O), (143, oddF.O), (163, widxO), (101, dskF.O), (51, drdO), (104, journalF.O)], ofT [(134, ovlO)]⟩
theorem eL11_ok : EnvOk Try.prog eL11 := envOk rfl rfl rfl gOkL ⟨cfg_ov, told_ov, stripes_ov, odd94_ov, dski_ov, slots_ov, dchk_ov, dialon_ov, take2_ov, nchk_ov, put2_ov, over2_ov, nw_ov, nd_ov, odd143_ov, widx_ov, dsk_ov, drdo_ov, journal_ov, trivial⟩ xOk
theorem ask_ov : OvOk Try.prog 65 askF.O := askF_ok eL11_ok mixed ⟨rfl, rfl⟩ ⟨rfl, rfl⟩ ⟨rfl, rfl, by kernel_rfl⟩ Try.func65 c65 hasB65
theorem drdv_ov : OvOk Try.prog 51 drdV := drdV_ok drdf_ov drdo_ov
noncomputable def eL12 : Env := ⟨GL, ofT [(78, cfgF.O), (83, toldF.O), (38, stripesF.O), (94, oddF.O), (138, dskI), (95, slotsF.O), (50, dchkF.O), (35, onF.O), (86, takeO), (132, nchkF.O), (161, putO), (107, overO), (90, nwF.O), (52, ndF.O), (143, oddF.O), (163, widxO), (101, dskF.O), (51, drdV), (104, journalF.O), (65, askF.O)], ofT [(134, ovlO)]⟩
theorem eL12_ok : EnvOk Try.prog eL12 := envOk rfl rfl rfl gOkL ⟨cfg_ov, told_ov, stripes_ov, odd94_ov, dski_ov, slots_ov, dchk_ov, dialon_ov, take2_ov, nchk_ov, put2_ov, over2_ov, nw_ov, nd_ov, odd143_ov, widx_ov, dsk_ov, drdv_ov, journal_ov, ask_ov, trivial⟩ xOk
theorem dr_ov : OvOk Try.prog 23 drF.O := drF_ok eL12_ok mixed ⟨rfl, rfl⟩ ⟨rfl, rfl⟩ ⟨rfl, rfl⟩ ⟨rfl, rfl⟩ ⟨rfl, rfl⟩ ⟨rfl, rfl, by kernel_rfl⟩ ⟨rfl, rfl, by kernel_rfl⟩ ⟨rfl, rfl⟩ Try.func106 c106 hasB106 Try.func23 c23 hasB23
theorem whole114_ov : OvOk Try.prog 114 wholeF.O := wholeF_ok eL12_ok mixed  Try.func114 c114 hasB114
noncomputable def eL13 : Env := ⟨GL, ofT [(78, cfgF.O), (83, toldF.O), (38, stripesF.O), (94, oddF.O), (138, dskI), (95, slotsF.O), (50, dchkF.O), (35, onF.O), (86, takeO), (132, nchkF.O), (161, putO), (107, overO), (90, nwF.O), (52, ndF.O), (143, oddF.O), (163, widxO), (101, dskF.O), (51, drdV), (104, journalF.O), (65, askF.O), (23, drF.O), (114, wholeF.O)], ofT [(134, ovlO)]⟩
theorem eL13_ok : EnvOk Try.prog eL13 := envOk rfl rfl rfl gOkL ⟨cfg_ov, told_ov, stripes_ov, odd94_ov, dski_ov, slots_ov, dchk_ov, dialon_ov, take2_ov, nchk_ov, put2_ov, over2_ov, nw_ov, nd_ov, odd143_ov, widx_ov, dsk_ov, drdv_ov, journal_ov, ask_ov, dr_ov, whole114_ov, trivial⟩ xOk
theorem same71_ov : OvOk Try.prog 71 same2F.O := same2F_ok eL13_ok mixed ⟨rfl, rfl⟩ Try.func71 c71 hasB71
noncomputable def eL14 : Env := ⟨GL, ofT [(78, cfgF.O), (83, toldF.O), (38, stripesF.O), (94, oddF.O), (138, dskI), (95, slotsF.O), (50, dchkF.O), (35, onF.O), (86, takeO), (132, nchkF.O), (161, putO), (107, overO), (90, nwF.O), (52, ndF.O), (143, oddF.O), (163, widxO), (101, dskF.O), (51, drdV), (104, journalF.O), (65, askF.O), (23, drF.O), (114, wholeF.O), (71, same2F.O)], ofT [(134, ovlO)]⟩
theorem eL14_ok : EnvOk Try.prog eL14 := envOk rfl rfl rfl gOkL ⟨cfg_ov, told_ov, stripes_ov, odd94_ov, dski_ov, slots_ov, dchk_ov, dialon_ov, take2_ov, nchk_ov, put2_ov, over2_ov, nw_ov, nd_ov, odd143_ov, widx_ov, dsk_ov, drdv_ov, journal_ov, ask_ov, dr_ov, whole114_ov, same71_ov, trivial⟩ xOk
theorem same25_ov : OvOk Try.prog 25 sameF.O := sameF_ok eL14_ok mixed ⟨rfl, rfl⟩ Try.func25 c25 hasB25
theorem numr_ov : OvOk Try.prog 150 numRF.O := numRF_ok eL14_ok mixed ⟨rfl, rfl⟩ ⟨rfl, rfl, by kernel_rfl⟩ Try.func150 c150 hasB150
theorem with_ov : OvOk Try.prog 168 withF.O := withF_ok eL14_ok mixed  Try.func168 c168 hasB168
noncomputable def eL15 : Env := ⟨GL, ofT [(78, cfgF.O), (83, toldF.O), (38, stripesF.O), (94, oddF.O), (138, dskI), (95, slotsF.O), (50, dchkF.O), (35, onF.O), (86, takeO), (132, nchkF.O), (161, putO), (107, overO), (90, nwF.O), (52, ndF.O), (143, oddF.O), (163, widxO), (101, dskF.O), (51, drdV), (104, journalF.O), (65, askF.O), (23, drF.O), (114, wholeF.O), (71, same2F.O), (25, sameF.O), (150, numRF.O), (168, withF.O)], ofT [(134, ovlO)]⟩
theorem eL15_ok : EnvOk Try.prog eL15 := envOk rfl rfl rfl gOkL ⟨cfg_ov, told_ov, stripes_ov, odd94_ov, dski_ov, slots_ov, dchk_ov, dialon_ov, take2_ov, nchk_ov, put2_ov, over2_ov, nw_ov, nd_ov, odd143_ov, widx_ov, dsk_ov, drdv_ov, journal_ov, ask_ov, dr_ov, whole114_ov, same71_ov, same25_ov, numr_ov, with_ov, trivial⟩ xOk
theorem overr_ov : OvOk Try.prog 153 overRF.O := overRF_ok eL15_ok mixed ⟨rfl, rfl⟩ Try.func153 c153 hasB153
noncomputable def eL16 : Env := ⟨GL, ofT [(78, cfgF.O), (83, toldF.O), (38, stripesF.O), (94, oddF.O), (138, dskI), (95, slotsF.O), (50, dchkF.O), (35, onF.O), (86, takeO), (132, nchkF.O), (161, putO), (107, overO), (90, nwF.O), (52, ndF.O), (143, oddF.O), (163, widxO), (101, dskF.O), (51, drdV), (104, journalF.O), (65, askF.O), (23, drF.O), (114, wholeF.O), (71, same2F.O), (25, sameF.O), (150, numRF.O), (168, withF.O), (153, overRF.O)], ofT [(134, ovlO)]⟩
theorem eL16_ok : EnvOk Try.prog eL16 := envOk rfl rfl rfl gOkL ⟨cfg_ov, told_ov, stripes_ov, odd94_ov, dski_ov, slots_ov, dchk_ov, dialon_ov, take2_ov, nchk_ov, put2_ov, over2_ov, nw_ov, nd_ov, odd143_ov, widx_ov, dsk_ov, drdv_ov, journal_ov, ask_ov, dr_ov, whole114_ov, same71_ov, same25_ov, numr_ov, with_ov, overr_ov, trivial⟩ xOk
theorem sumr_ov : OvOk Try.prog 115 sumRF.O := sumRF_ok eL16_ok mixed ⟨rfl, rfl⟩ Try.func115 c115 hasB115
theorem whole114r_ov : OvOk Try.prog 114 wholeRO := wholeRO_ok eL16_ok mixed  Try.func114 c114 hasB114
noncomputable def eL17 : Env := ⟨GL, ofT [(78, cfgF.O), (83, toldF.O), (38, stripesF.O), (94, oddF.O), (138, dskI), (95, slotsF.O), (50, dchkF.O), (35, onF.O), (86, takeO), (132, nchkF.O), (161, putO), (107, overO), (90, nwF.O), (52, ndF.O), (143, oddF.O), (163, widxO), (101, dskF.O), (51, drdV), (104, journalF.O), (65, askF.O), (23, drF.O), (114, wholeRO), (71, same2F.O), (25, sameF.O), (150, numRF.O), (168, withF.O), (153, overRF.O), (115, sumRF.O)], ofT [(134, ovlO)]⟩
theorem eL17_ok : EnvOk Try.prog eL17 := envOk rfl rfl rfl gOkL ⟨cfg_ov, told_ov, stripes_ov, odd94_ov, dski_ov, slots_ov, dchk_ov, dialon_ov, take2_ov, nchk_ov, put2_ov, over2_ov, nw_ov, nd_ov, odd143_ov, widx_ov, dsk_ov, drdv_ov, journal_ov, ask_ov, dr_ov, whole114r_ov, same71_ov, same25_ov, numr_ov, with_ov, overr_ov, sumr_ov, trivial⟩ xOk
theorem wth_ov : OvOk Try.prog 171 wthF.O := wthF_ok eL17_ok mixed ⟨rfl, rfl⟩ Try.func171 c171 hasB171
theorem whole114f_ov : OvOk Try.prog 114 wholeF.O := whole114_ov
noncomputable def eL18 : Env := ⟨GL, ofT [(78, cfgF.O), (83, toldF.O), (38, stripesF.O), (94, oddF.O), (138, dskI), (95, slotsF.O), (50, dchkF.O), (35, onF.O), (86, takeO), (132, nchkF.O), (161, putO), (107, overO), (90, nwF.O), (52, ndF.O), (143, oddF.O), (163, widxO), (101, dskF.O), (51, drdV), (104, journalF.O), (65, askF.O), (23, drF.O), (114, wholeF.O), (71, same2F.O), (25, sameF.O), (150, numRF.O), (168, withF.O), (153, overRF.O), (115, sumRF.O), (171, wthF.O)], ofT [(134, ovlO)]⟩
theorem eL18_ok : EnvOk Try.prog eL18 := envOk rfl rfl rfl gOkL ⟨cfg_ov, told_ov, stripes_ov, odd94_ov, dski_ov, slots_ov, dchk_ov, dialon_ov, take2_ov, nchk_ov, put2_ov, over2_ov, nw_ov, nd_ov, odd143_ov, widx_ov, dsk_ov, drdv_ov, journal_ov, ask_ov, dr_ov, whole114f_ov, same71_ov, same25_ov, numr_ov, with_ov, overr_ov, sumr_ov, wth_ov, trivial⟩ xOk
theorem sealr_ov : OvOk Try.prog 167 sealRF.O := sealRF_ok eL18_ok mixed ⟨rfl, rfl⟩ ⟨rfl, rfl⟩ ⟨rfl, rfl⟩ Try.func167 c167 hasB167
theorem siz149_ov : OvOk Try.prog 149 sizF.O := sizF149_ok eL18_ok mixed  Try.func149 c149 hasB149
theorem slt_ov : OvOk Try.prog 165 sltF.O := sltF_ok eL18_ok mixed  Try.func165 c165 hasB165
noncomputable def eL19 : Env := ⟨GL, ofT [(78, cfgF.O), (83, toldF.O), (38, stripesF.O), (94, oddF.O), (138, dskI), (95, slotsF.O), (50, dchkF.O), (35, onF.O), (86, takeO), (132, nchkF.O), (161, putO), (107, overO), (90, nwF.O), (52, ndF.O), (143, oddF.O), (163, widxO), (101, dskF.O), (51, drdV), (104, journalF.O), (65, askF.O), (23, drF.O), (114, wholeF.O), (71, same2F.O), (25, sameF.O), (150, numRF.O), (168, withF.O), (153, overRF.O), (115, sumRF.O), (171, wthF.O), (167, sealRF.O), (149, sizF.O), (165, sltF.O)], ofT [(134, ovlO)]⟩
theorem eL19_ok : EnvOk Try.prog eL19 := envOk rfl rfl rfl gOkL ⟨cfg_ov, told_ov, stripes_ov, odd94_ov, dski_ov, slots_ov, dchk_ov, dialon_ov, take2_ov, nchk_ov, put2_ov, over2_ov, nw_ov, nd_ov, odd143_ov, widx_ov, dsk_ov, drdv_ov, journal_ov, ask_ov, dr_ov, whole114f_ov, same71_ov, same25_ov, numr_ov, with_ov, overr_ov, sumr_ov, wth_ov, sealr_ov, siz149_ov, slt_ov, trivial⟩ xOk
theorem nmay_ov : OvOk Try.prog 151 nmayF.O := nmayF_ok eL19_ok mixed ⟨rfl, rfl⟩ Try.func151 c151 hasB151
theorem fourr_ov : OvOk Try.prog 166 fourF.O := fourF_ok eL19_ok mixed  Try.func166 c166 hasB166
noncomputable def eL20 : Env := ⟨GL, ofT [(78, cfgF.O), (83, toldF.O), (38, stripesF.O), (94, oddF.O), (138, dskI), (95, slotsF.O), (50, dchkF.O), (35, onF.O), (86, takeO), (132, nchkF.O), (161, putO), (107, overO), (90, nwF.O), (52, ndF.O), (143, oddF.O), (163, widxO), (101, dskF.O), (51, drdV), (104, journalF.O), (65, askF.O), (23, drF.O), (114, wholeF.O), (71, same2F.O), (25, sameF.O), (150, numRF.O), (168, withF.O), (153, overRF.O), (115, sumRF.O), (171, wthF.O), (167, sealRF.O), (149, sizF.O), (165, sltF.O), (151, nmayF.O), (166, fourF.O)], ofT [(134, ovlO)]⟩
theorem eL20_ok : EnvOk Try.prog eL20 := envOk rfl rfl rfl gOkL ⟨cfg_ov, told_ov, stripes_ov, odd94_ov, dski_ov, slots_ov, dchk_ov, dialon_ov, take2_ov, nchk_ov, put2_ov, over2_ov, nw_ov, nd_ov, odd143_ov, widx_ov, dsk_ov, drdv_ov, journal_ov, ask_ov, dr_ov, whole114f_ov, same71_ov, same25_ov, numr_ov, with_ov, overr_ov, sumr_ov, wth_ov, sealr_ov, siz149_ov, slt_ov, nmay_ov, fourr_ov, trivial⟩ xOk
theorem nbk_ov : OvOk Try.prog 152 nbkF.O := nbkF_ok eL20_ok mixed ⟨rfl, rfl⟩ ⟨rfl, rfl⟩ Try.func152 c152 hasB152
noncomputable def eL21 : Env := ⟨GL, ofT [(78, cfgF.O), (83, toldF.O), (38, stripesF.O), (94, oddF.O), (138, dskI), (95, slotsF.O), (50, dchkF.O), (35, onF.O), (86, takeO), (132, nchkF.O), (161, putO), (107, overO), (90, nwF.O), (52, ndF.O), (143, oddF.O), (163, widxO), (101, dskF.O), (51, drdV), (104, journalF.O), (65, askF.O), (23, drF.O), (114, wholeF.O), (71, same2F.O), (25, sameF.O), (150, numRF.O), (168, withF.O), (153, overRF.O), (115, sumRF.O), (171, wthF.O), (167, sealRF.O), (149, sizF.O), (165, sltF.O), (151, nmayF.O), (166, fourF.O), (152, nbkF.O)], ofT [(134, ovlO)]⟩
theorem eL21_ok : EnvOk Try.prog eL21 := envOk rfl rfl rfl gOkL ⟨cfg_ov, told_ov, stripes_ov, odd94_ov, dski_ov, slots_ov, dchk_ov, dialon_ov, take2_ov, nchk_ov, put2_ov, over2_ov, nw_ov, nd_ov, odd143_ov, widx_ov, dsk_ov, drdv_ov, journal_ov, ask_ov, dr_ov, whole114f_ov, same71_ov, same25_ov, numr_ov, with_ov, overr_ov, sumr_ov, wth_ov, sealr_ov, siz149_ov, slt_ov, nmay_ov, fourr_ov, nbk_ov, trivial⟩ xOk
theorem nrd_ov : OvOk Try.prog 112 ndF.O := nreadF_ok eL21_ok mixed ⟨rfl, rfl⟩ ⟨rfl, rfl⟩ ⟨rfl, rfl⟩ ⟨rfl, rfl⟩ ⟨rfl, rfl⟩ Try.func112 c112 hasB112
theorem whole114q_ov : OvOk Try.prog 114 wholeRO := whole114r_ov
theorem sumv_ov : OvOk Try.prog 115 sumVO := sumVO_ok sumr_ov
theorem grt4_ov : OvOk Try.prog 21 grt4F.O := grt4F_ok eL21_ok mixed  Try.func21 c21 hasB21
theorem twn4_ov : OvOk Try.prog 22 twn4F.O := twn4F_ok eL21_ok mixed  Try.func22 c22 hasB22
theorem mayr_ov : OvOk Try.prog 68 mayRF.O := mayRF_ok eL21_ok mixed ⟨rfl, rfl, by kernel_rfl⟩ ⟨rfl, rfl, by kernel_rfl⟩ Try.func68 c68 hasB68
theorem siz148_ov : OvOk Try.prog 148 sizF.O := sizF148_ok eL21_ok mixed  Try.func148 c148 hasB148
noncomputable def eL22 : Env := ⟨GL, ofT [(78, cfgF.O), (83, toldF.O), (38, stripesF.O), (94, oddF.O), (138, dskI), (95, slotsF.O), (50, dchkF.O), (35, onF.O), (86, takeO), (132, nchkF.O), (161, putO), (107, overO), (90, nwF.O), (52, ndF.O), (143, oddF.O), (163, widxO), (101, dskF.O), (51, drdV), (104, journalF.O), (65, askF.O), (23, drF.O), (114, wholeRO), (71, same2F.O), (25, sameF.O), (150, numRF.O), (168, withF.O), (153, overRF.O), (115, sumVO), (171, wthF.O), (167, sealRF.O), (149, sizF.O), (165, sltF.O), (151, nmayF.O), (166, fourF.O), (152, nbkF.O), (112, ndF.O), (21, grt4F.O), (22, twn4F.O), (68, mayRF.O), (148, sizF.O)], ofT [(134, ovlO)]⟩
theorem eL22_ok : EnvOk Try.prog eL22 := envOk rfl rfl rfl gOkL ⟨cfg_ov, told_ov, stripes_ov, odd94_ov, dski_ov, slots_ov, dchk_ov, dialon_ov, take2_ov, nchk_ov, put2_ov, over2_ov, nw_ov, nd_ov, odd143_ov, widx_ov, dsk_ov, drdv_ov, journal_ov, ask_ov, dr_ov, whole114q_ov, same71_ov, same25_ov, numr_ov, with_ov, overr_ov, sumv_ov, wth_ov, sealr_ov, siz149_ov, slt_ov, nmay_ov, fourr_ov, nbk_ov, nrd_ov, grt4_ov, twn4_ov, mayr_ov, siz148_ov, trivial⟩ xOk
theorem dmay_ov : OvOk Try.prog 110 dmayF.O := dmayF_ok eL22_ok mixed ⟨rfl, rfl⟩ Try.func110 c110 hasB110
noncomputable def eL23 : Env := ⟨GL, ofT [(78, cfgF.O), (83, toldF.O), (38, stripesF.O), (94, oddF.O), (138, dskI), (95, slotsF.O), (50, dchkF.O), (35, onF.O), (86, takeO), (132, nchkF.O), (161, putO), (107, overO), (90, nwF.O), (52, ndF.O), (143, oddF.O), (163, widxO), (101, dskF.O), (51, drdV), (104, journalF.O), (65, askF.O), (23, drF.O), (114, wholeRO), (71, same2F.O), (25, sameF.O), (150, numRF.O), (168, withF.O), (153, overRF.O), (115, sumVO), (171, wthF.O), (167, sealRF.O), (149, sizF.O), (165, sltF.O), (151, nmayF.O), (166, fourF.O), (152, nbkF.O), (112, ndF.O), (21, grt4F.O), (22, twn4F.O), (68, mayRF.O), (148, sizF.O), (110, dmayF.O)], ofT [(134, ovlO)]⟩
theorem eL23_ok : EnvOk Try.prog eL23 := envOk rfl rfl rfl gOkL ⟨cfg_ov, told_ov, stripes_ov, odd94_ov, dski_ov, slots_ov, dchk_ov, dialon_ov, take2_ov, nchk_ov, put2_ov, over2_ov, nw_ov, nd_ov, odd143_ov, widx_ov, dsk_ov, drdv_ov, journal_ov, ask_ov, dr_ov, whole114q_ov, same71_ov, same25_ov, numr_ov, with_ov, overr_ov, sumv_ov, wth_ov, sealr_ov, siz149_ov, slt_ov, nmay_ov, fourr_ov, nbk_ov, nrd_ov, grt4_ov, twn4_ov, mayr_ov, siz148_ov, dmay_ov, trivial⟩ xOk
theorem jnl_ov : OvOk Try.prog 69 jnlF.O := jnlF_ok eL23_ok mixed ⟨rfl, rfl⟩ ⟨rfl, rfl, by kernel_rfl⟩ Try.func69 c69 hasB69
theorem full_ov : OvOk Try.prog 72 fullF.O := fullF_ok eL23_ok mixed  Try.func72 c72 hasB72
noncomputable def eL24 : Env := ⟨GL, ofT [(78, cfgF.O), (83, toldF.O), (38, stripesF.O), (94, oddF.O), (138, dskI), (95, slotsF.O), (50, dchkF.O), (35, onF.O), (86, takeO), (132, nchkF.O), (161, putO), (107, overO), (90, nwF.O), (52, ndF.O), (143, oddF.O), (163, widxO), (101, dskF.O), (51, drdV), (104, journalF.O), (65, askF.O), (23, drF.O), (114, wholeRO), (71, same2F.O), (25, sameF.O), (150, numRF.O), (168, withF.O), (153, overRF.O), (115, sumVO), (171, wthF.O), (167, sealRF.O), (149, sizF.O), (165, sltF.O), (151, nmayF.O), (166, fourF.O), (152, nbkF.O), (112, ndF.O), (21, grt4F.O), (22, twn4F.O), (68, mayRF.O), (148, sizF.O), (110, dmayF.O), (69, jnlF.O), (72, fullF.O)], ofT [(134, ovlO)]⟩
theorem eL24_ok : EnvOk Try.prog eL24 := envOk rfl rfl rfl gOkL ⟨cfg_ov, told_ov, stripes_ov, odd94_ov, dski_ov, slots_ov, dchk_ov, dialon_ov, take2_ov, nchk_ov, put2_ov, over2_ov, nw_ov, nd_ov, odd143_ov, widx_ov, dsk_ov, drdv_ov, journal_ov, ask_ov, dr_ov, whole114q_ov, same71_ov, same25_ov, numr_ov, with_ov, overr_ov, sumv_ov, wth_ov, sealr_ov, siz149_ov, slt_ov, nmay_ov, fourr_ov, nbk_ov, nrd_ov, grt4_ov, twn4_ov, mayr_ov, siz148_ov, dmay_ov, jnl_ov, full_ov, trivial⟩ xOk
theorem seen_ov : OvOk Try.prog 120 seenF.O := seenF_ok eL24_ok mixed ⟨rfl, rfl⟩ ⟨rfl, rfl, by kernel_rfl⟩ Try.func120 c120 hasB120
noncomputable def eL25 : Env := ⟨GL, ofT [(78, cfgF.O), (83, toldF.O), (38, stripesF.O), (94, oddF.O), (138, dskI), (95, slotsF.O), (50, dchkF.O), (35, onF.O), (86, takeO), (132, nchkF.O), (161, putO), (107, overO), (90, nwF.O), (52, ndF.O), (143, oddF.O), (163, widxO), (101, dskF.O), (51, drdV), (104, journalF.O), (65, askF.O), (23, drF.O), (114, wholeRO), (71, same2F.O), (25, sameF.O), (150, numRF.O), (168, withF.O), (153, overRF.O), (115, sumVO), (171, wthF.O), (167, sealRF.O), (149, sizF.O), (165, sltF.O), (151, nmayF.O), (166, fourF.O), (152, nbkF.O), (112, ndF.O), (21, grt4F.O), (22, twn4F.O), (68, mayRF.O), (148, sizF.O), (110, dmayF.O), (69, jnlF.O), (72, fullF.O), (120, seenF.O)], ofT [(134, ovlO)]⟩
theorem eL25_ok : EnvOk Try.prog eL25 := envOk rfl rfl rfl gOkL ⟨cfg_ov, told_ov, stripes_ov, odd94_ov, dski_ov, slots_ov, dchk_ov, dialon_ov, take2_ov, nchk_ov, put2_ov, over2_ov, nw_ov, nd_ov, odd143_ov, widx_ov, dsk_ov, drdv_ov, journal_ov, ask_ov, dr_ov, whole114q_ov, same71_ov, same25_ov, numr_ov, with_ov, overr_ov, sumv_ov, wth_ov, sealr_ov, siz149_ov, slt_ov, nmay_ov, fourr_ov, nbk_ov, nrd_ov, grt4_ov, twn4_ov, mayr_ov, siz148_ov, dmay_ov, jnl_ov, full_ov, seen_ov, trivial⟩ xOk
theorem atr_ov : OvOk Try.prog 113 atF.O := atF_ok eL25_ok mixed ⟨rfl, rfl⟩ Try.func113 c113 hasB113
theorem slotsr_ov : OvOk Try.prog 155 slotsF.O := slotsRF_ok eL25_ok mixed  Try.func155 c155 hasB155
noncomputable def eL26 : Env := ⟨GL, ofT [(78, cfgF.O), (83, toldF.O), (38, stripesF.O), (94, oddF.O), (138, dskI), (95, slotsF.O), (50, dchkF.O), (35, onF.O), (86, takeO), (132, nchkF.O), (161, putO), (107, overO), (90, nwF.O), (52, ndF.O), (143, oddF.O), (163, widxO), (101, dskF.O), (51, drdV), (104, journalF.O), (65, askF.O), (23, drF.O), (114, wholeRO), (71, same2F.O), (25, sameF.O), (150, numRF.O), (168, withF.O), (153, overRF.O), (115, sumVO), (171, wthF.O), (167, sealRF.O), (149, sizF.O), (165, sltF.O), (151, nmayF.O), (166, fourF.O), (152, nbkF.O), (112, ndF.O), (21, grt4F.O), (22, twn4F.O), (68, mayRF.O), (148, sizF.O), (110, dmayF.O), (69, jnlF.O), (72, fullF.O), (120, seenF.O), (113, atF.O), (155, slotsF.O)], ofT [(134, ovlO)]⟩
theorem eL26_ok : EnvOk Try.prog eL26 := envOk rfl rfl rfl gOkL ⟨cfg_ov, told_ov, stripes_ov, odd94_ov, dski_ov, slots_ov, dchk_ov, dialon_ov, take2_ov, nchk_ov, put2_ov, over2_ov, nw_ov, nd_ov, odd143_ov, widx_ov, dsk_ov, drdv_ov, journal_ov, ask_ov, dr_ov, whole114q_ov, same71_ov, same25_ov, numr_ov, with_ov, overr_ov, sumv_ov, wth_ov, sealr_ov, siz149_ov, slt_ov, nmay_ov, fourr_ov, nbk_ov, nrd_ov, grt4_ov, twn4_ov, mayr_ov, siz148_ov, dmay_ov, jnl_ov, full_ov, seen_ov, atr_ov, slotsr_ov, trivial⟩ xOk
theorem dlm_ov : OvOk Try.prog 116 dlmF.O := dlmF_ok eL26_ok mixed ⟨rfl, rfl, by kernel_rfl⟩ ⟨rfl, rfl⟩ ⟨rfl, rfl⟩ Try.func116 c116 hasB116
noncomputable def eL27 : Env := ⟨GL, ofT [(78, cfgF.O), (83, toldF.O), (38, stripesF.O), (94, oddF.O), (138, dskI), (95, slotsF.O), (50, dchkF.O), (35, onF.O), (86, takeO), (132, nchkF.O), (161, putO), (107, overO), (90, nwF.O), (52, ndF.O), (143, oddF.O), (163, widxO), (101, dskF.O), (51, drdV), (104, journalF.O), (65, askF.O), (23, drF.O), (114, wholeRO), (71, same2F.O), (25, sameF.O), (150, numRF.O), (168, withF.O), (153, overRF.O), (115, sumVO), (171, wthF.O), (167, sealRF.O), (149, sizF.O), (165, sltF.O), (151, nmayF.O), (166, fourF.O), (152, nbkF.O), (112, ndF.O), (21, grt4F.O), (22, twn4F.O), (68, mayRF.O), (148, sizF.O), (110, dmayF.O), (69, jnlF.O), (72, fullF.O), (120, seenF.O), (113, atF.O), (155, slotsF.O), (116, dlmF.O)], ofT [(134, ovlO)]⟩
theorem eL27_ok : EnvOk Try.prog eL27 := envOk rfl rfl rfl gOkL ⟨cfg_ov, told_ov, stripes_ov, odd94_ov, dski_ov, slots_ov, dchk_ov, dialon_ov, take2_ov, nchk_ov, put2_ov, over2_ov, nw_ov, nd_ov, odd143_ov, widx_ov, dsk_ov, drdv_ov, journal_ov, ask_ov, dr_ov, whole114q_ov, same71_ov, same25_ov, numr_ov, with_ov, overr_ov, sumv_ov, wth_ov, sealr_ov, siz149_ov, slt_ov, nmay_ov, fourr_ov, nbk_ov, nrd_ov, grt4_ov, twn4_ov, mayr_ov, siz148_ov, dmay_ov, jnl_ov, full_ov, seen_ov, atr_ov, slotsr_ov, dlm_ov, trivial⟩ xOk
theorem std_ov : OvOk Try.prog 70 stdF.O := stdF_ok eL27_ok mixed ⟨rfl, rfl⟩ ⟨rfl, rfl⟩ ⟨rfl, rfl⟩ ⟨rfl, rfl⟩ ⟨rfl, rfl⟩ Try.func70 c70 hasB70
noncomputable def eL28 : Env := ⟨GL, ofT [(78, cfgF.O), (83, toldF.O), (38, stripesF.O), (94, oddF.O), (138, dskI), (95, slotsF.O), (50, dchkF.O), (35, onF.O), (86, takeO), (132, nchkF.O), (161, putO), (107, overO), (90, nwF.O), (52, ndF.O), (143, oddF.O), (163, widxO), (101, dskF.O), (51, drdV), (104, journalF.O), (65, askF.O), (23, drF.O), (114, wholeRO), (71, same2F.O), (25, sameF.O), (150, numRF.O), (168, withF.O), (153, overRF.O), (115, sumVO), (171, wthF.O), (167, sealRF.O), (149, sizF.O), (165, sltF.O), (151, nmayF.O), (166, fourF.O), (152, nbkF.O), (112, ndF.O), (21, grt4F.O), (22, twn4F.O), (68, mayRF.O), (148, sizF.O), (110, dmayF.O), (69, jnlF.O), (72, fullF.O), (120, seenF.O), (113, atF.O), (155, slotsF.O), (116, dlmF.O), (70, stdF.O)], ofT [(134, ovlO)]⟩
theorem eL28_ok : EnvOk Try.prog eL28 := envOk rfl rfl rfl gOkL ⟨cfg_ov, told_ov, stripes_ov, odd94_ov, dski_ov, slots_ov, dchk_ov, dialon_ov, take2_ov, nchk_ov, put2_ov, over2_ov, nw_ov, nd_ov, odd143_ov, widx_ov, dsk_ov, drdv_ov, journal_ov, ask_ov, dr_ov, whole114q_ov, same71_ov, same25_ov, numr_ov, with_ov, overr_ov, sumv_ov, wth_ov, sealr_ov, siz149_ov, slt_ov, nmay_ov, fourr_ov, nbk_ov, nrd_ov, grt4_ov, twn4_ov, mayr_ov, siz148_ov, dmay_ov, jnl_ov, full_ov, seen_ov, atr_ov, slotsr_ov, dlm_ov, std_ov, trivial⟩ xOk
theorem rread_ov : OvOk Try.prog 24 drF.O := rreadF_ok eL28_ok mixed ⟨rfl, rfl⟩ ⟨rfl, rfl⟩ ⟨rfl, rfl⟩ Try.func24 c24 hasB24
theorem sam4_ov : OvOk Try.prog 26 sam4F.O := sam4F_ok eL28_ok mixed ⟨rfl, rfl⟩ Try.func26 c26 hasB26
noncomputable def eL29 : Env := ⟨GL, ofT [(78, cfgF.O), (83, toldF.O), (38, stripesF.O), (94, oddF.O), (138, dskI), (95, slotsF.O), (50, dchkF.O), (35, onF.O), (86, takeO), (132, nchkF.O), (161, putO), (107, overO), (90, nwF.O), (52, ndF.O), (143, oddF.O), (163, widxO), (101, dskF.O), (51, drdV), (104, journalF.O), (65, askF.O), (23, drF.O), (114, wholeRO), (71, same2F.O), (25, sameF.O), (150, numRF.O), (168, withF.O), (153, overRF.O), (115, sumVO), (171, wthF.O), (167, sealRF.O), (149, sizF.O), (165, sltF.O), (151, nmayF.O), (166, fourF.O), (152, nbkF.O), (112, ndF.O), (21, grt4F.O), (22, twn4F.O), (68, mayRF.O), (148, sizF.O), (110, dmayF.O), (69, jnlF.O), (72, fullF.O), (120, seenF.O), (113, atF.O), (155, slotsF.O), (116, dlmF.O), (70, stdF.O), (24, drF.O), (26, sam4F.O)], ofT [(134, ovlO)]⟩
theorem eL29_ok : EnvOk Try.prog eL29 := envOk rfl rfl rfl gOkL ⟨cfg_ov, told_ov, stripes_ov, odd94_ov, dski_ov, slots_ov, dchk_ov, dialon_ov, take2_ov, nchk_ov, put2_ov, over2_ov, nw_ov, nd_ov, odd143_ov, widx_ov, dsk_ov, drdv_ov, journal_ov, ask_ov, dr_ov, whole114q_ov, same71_ov, same25_ov, numr_ov, with_ov, overr_ov, sumv_ov, wth_ov, sealr_ov, siz149_ov, slt_ov, nmay_ov, fourr_ov, nbk_ov, nrd_ov, grt4_ov, twn4_ov, mayr_ov, siz148_ov, dmay_ov, jnl_ov, full_ov, seen_ov, atr_ov, slotsr_ov, dlm_ov, std_ov, rread_ov, sam4_ov, trivial⟩ xOk
theorem inDealReads : DRdIn eL29 := ⟨⟨rfl, rfl⟩, ⟨rfl, rfl⟩, ⟨rfl, rfl⟩, ⟨rfl, rfl⟩, ⟨rfl, rfl⟩, ⟨rfl, rfl⟩⟩
theorem dealReads_C (c : Cfg) (d : DK) (a : Int) (hc : c.ok) (hd : d.any) (hu : uns 3 d.c = true) (ha : i64B a) :
 CO Try.prog 3 [c.v, d.v, .int .i64 a] (fun u _ => u = .bool true) :=
 CO.of_WO Try.func3 c3 (reads_law Try.prog eL29 eL29_ok mixed inDealReads c hc d hd hu a ha)
end Go.AM
