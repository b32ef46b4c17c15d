/-
 Functions of the program as the abstract machine reads them, and what is stated of them, checked by the kernel. No conditions.
-/
import Derived.Test.YtnnbibnobmegpaaSeatEnv
import Derived.Test.YtnnbibnobmegpaaSeatP
import Derived.Test.YtnnbibnobmegpaaSeatQ
import Derived.Test.YtnnbibnobmegpaaSeatZ
import Derived.Test.YtnnbibnobmegpaaSeatY
import Derived.WalkKit
set_option linter.unusedVariables false
set_option linter.unusedSimpArgs false
set_option maxRecDepth 1000000
namespace Go.AM
open Go.Proofs Go.AM.X
theorem c4:Zaj Try.prog Try.f4=some a4:=by kernel_rfl
theorem c21:Zaj Try.prog Try.f21=some a21:=by kernel_rfl
theorem c22:Zaj Try.prog Try.f22=some a22:=by kernel_rfl
theorem c23:Zaj Try.prog Try.f23=some a23:=by kernel_rfl
theorem c25:Zaj Try.prog Try.f25=some a25:=by kernel_rfl
theorem c26:Zaj Try.prog Try.f26=some a26:=by kernel_rfl
theorem c27:Zaj Try.prog Try.f27=some a27:=by kernel_rfl
theorem c28:Zaj Try.prog Try.f28=some a28:=by kernel_rfl
theorem c29:Zaj Try.prog Try.f29=some a29:=by kernel_rfl
theorem c35:Zaj Try.prog Try.f35=some a35:=by kernel_rfl
theorem c38:Zaj Try.prog Try.f38=some a38:=by kernel_rfl
theorem c50:Zaj Try.prog Try.f50=some a50:=by kernel_rfl
theorem c51:Zaj Try.prog Try.f51=some a51:=by kernel_rfl
theorem c52:Zaj Try.prog Try.f52=some a52:=by kernel_rfl
theorem c65:Zaj Try.prog Try.f65=some a65:=by kernel_rfl
theorem c66:Zaj Try.prog Try.f66=some a66:=by kernel_rfl
theorem c68:Zaj Try.prog Try.f68=some a68:=by kernel_rfl
theorem c69:Zaj Try.prog Try.f69=some a69:=by kernel_rfl
theorem c70:Zaj Try.prog Try.f70=some a70:=by kernel_rfl
theorem c71:Zaj Try.prog Try.f71=some a71:=by kernel_rfl
theorem c72:Zaj Try.prog Try.f72=some a72:=by kernel_rfl
theorem c73:Zaj Try.prog Try.f73=some a73:=by kernel_rfl
theorem c74:Zaj Try.prog Try.f74=some a74:=by kernel_rfl
theorem c75:Zaj Try.prog Try.f75=some a75:=by kernel_rfl
theorem c76:Zaj Try.prog Try.f76=some a76:=by kernel_rfl
theorem c78:Zaj Try.prog Try.f78=some a78:=by kernel_rfl
theorem c82:Zaj Try.prog Try.f82=some a82:=by kernel_rfl
theorem c83:Zaj Try.prog Try.f83=some a83:=by kernel_rfl
theorem c90:Zaj Try.prog Try.f90=some a90:=by kernel_rfl
theorem c93:Zaj Try.prog Try.f93=some a93:=by kernel_rfl
theorem c94:Zaj Try.prog Try.f94=some a94:=by kernel_rfl
theorem c95:Zaj Try.prog Try.f95=some a95:=by kernel_rfl
theorem c96:Zaj Try.prog Try.f96=some a96:=by kernel_rfl
theorem c97:Zaj Try.prog Try.f97=some a97:=by kernel_rfl
theorem c98:Zaj Try.prog Try.f98=some a98:=by kernel_rfl
theorem c99:Zaj Try.prog Try.f99=some a99:=by kernel_rfl
theorem c100:Zaj Try.prog Try.f100=some a100:=by kernel_rfl
theorem c101:Zaj Try.prog Try.f101=some a101:=by kernel_rfl
theorem c104:Zaj Try.prog Try.f104=some a104:=by kernel_rfl
theorem c105:Zaj Try.prog Try.f105=some a105:=by kernel_rfl
theorem c106:Zaj Try.prog Try.f106=some a106:=by kernel_rfl
theorem c108:Zaj Try.prog Try.f108=some a108:=by kernel_rfl
theorem c109:Zaj Try.prog Try.f109=some a109:=by kernel_rfl
theorem c110:Zaj Try.prog Try.f110=some a110:=by kernel_rfl
theorem c111:Zaj Try.prog Try.f111=some a111:=by kernel_rfl
theorem c112:Zaj Try.prog Try.f112=some a112:=by kernel_rfl
theorem c113:Zaj Try.prog Try.f113=some a113:=by kernel_rfl
theorem c114:Zaj Try.prog Try.f114=some Yi9:=by kernel_rfl
theorem c115:Zaj Try.prog Try.f115=some a115:=by kernel_rfl
theorem c116:Zaj Try.prog Try.f116=some a116:=by kernel_rfl
theorem c117:Zaj Try.prog Try.f117=some a117:=by kernel_rfl
theorem c118:Zaj Try.prog Try.f118=some a118:=by kernel_rfl
theorem c119:Zaj Try.prog Try.f119=some a119:=by kernel_rfl
theorem c120:Zaj Try.prog Try.f120=some a120:=by kernel_rfl
theorem c121:Zaj Try.prog Try.f121=some a121:=by kernel_rfl
theorem c126:Zaj Try.prog Try.f126=some a126:=by kernel_rfl
theorem c132:Zaj Try.prog Try.f132=some a132:=by kernel_rfl
theorem c133:Zaj Try.prog Try.f133=some a133:=by kernel_rfl
theorem c138:Zaj Try.prog Try.f138=some Yi8:=by kernel_rfl
theorem c139:Zaj Try.prog Try.f139=some a139:=by kernel_rfl
theorem c140:Zaj Try.prog Try.f140=some Yi7:=by kernel_rfl
theorem c141:Zaj Try.prog Try.f141=some a141:=by kernel_rfl
theorem c142:Zaj Try.prog Try.f142=some a142:=by kernel_rfl
theorem c143:Zaj Try.prog Try.f143=some a143:=by kernel_rfl
theorem c144:Zaj Try.prog Try.f144=some a144:=by kernel_rfl
theorem c145:Zaj Try.prog Try.f145=some a145:=by kernel_rfl
theorem c146:Zaj Try.prog Try.f146=some a146:=by kernel_rfl
theorem c148:Zaj Try.prog Try.f148=some a148:=by kernel_rfl
theorem c149:Zaj Try.prog Try.f149=some a149:=by kernel_rfl
theorem c150:Zaj Try.prog Try.f150=some a150:=by kernel_rfl
theorem c151:Zaj Try.prog Try.f151=some a151:=by kernel_rfl
theorem c152:Zaj Try.prog Try.f152=some a152:=by kernel_rfl
theorem c153:Zaj Try.prog Try.f153=some a153:=by kernel_rfl
theorem c154:Zaj Try.prog Try.f154=some a154:=by kernel_rfl
theorem c155:Zaj Try.prog Try.f155=some a155:=by kernel_rfl
theorem c156:Zaj Try.prog Try.f156=some a156:=by kernel_rfl
theorem c157:Zaj Try.prog Try.f157=some a157:=by kernel_rfl
theorem c158:Zaj Try.prog Try.f158=some a158:=by kernel_rfl
theorem c163:Zaj Try.prog Try.f163=some a163:=by kernel_rfl
theorem c164:Zaj Try.prog Try.f164=some a164:=by kernel_rfl
theorem c165:Zaj Try.prog Try.f165=some a165:=by kernel_rfl
theorem c166:Zaj Try.prog Try.f166=some a166:=by kernel_rfl
theorem c167:Zaj Try.prog Try.f167=some Yhv:=by kernel_rfl
theorem c168:Zaj Try.prog Try.f168=some a168:=by kernel_rfl
theorem c171:Zaj Try.prog Try.f171=some a171:=by kernel_rfl
noncomputable def GL:T AFn:=ofT ([(4,a4),(21,a21),(22,a22),(23,a23),(25,a25),(26,a26),(27,a27),(28,a28),(29,a29),(35,a35),(38,a38),(50,a50),(51,a51),(52,a52),(65,a65),(66,a66),(68,a68),(69,a69),(70,a70),(71,a71),(72,a72),(73,a73),(74,a74),(75,a75),(76,a76),(78,a78),(82,a82),(83,a83),(90,a90),(93,a93),(94,a94),(95,a95),(96,a96),(97,a97),(98,a98),(99,a99),(100,a100),(101,a101),(104,a104),(105,a105),(106,a106),(108,a108),(109,a109),(110,a110),(111,a111),(112,a112),(113,a113),(114,Yi9),(115,a115),(116,a116),(117,a117),(118,a118),(119,a119),(120,a120),(121,a121),(126,a126),(132,a132),(133,a133),(138,Yi8),(139,a139),(140,Yi7),(141,a141),(142,a142),(143,a143),(144,a144),(145,a145),(146,a146),(148,a148),(149,a149),(150,a150),(151,a151),(152,a152),(153,a153),(154,a154),(155,a155),(156,a156),(157,a157),(158,a158),(163,a163),(164,a164),(165,a165),(166,a166),(167,Yhv),(168,a168),(171,a171)]++gl)
theorem Zho:All (GOk Try.prog) ([(4,a4),(21,a21),(22,a22),(23,a23),(25,a25),(26,a26),(27,a27),(28,a28),(29,a29),(35,a35),(38,a38),(50,a50),(51,a51),(52,a52),(65,a65),(66,a66),(68,a68),(69,a69),(70,a70),(71,a71),(72,a72),(73,a73),(74,a74),(75,a75),(76,a76),(78,a78),(82,a82),(83,a83),(90,a90),(93,a93),(94,a94),(95,a95),(96,a96),(97,a97),(98,a98),(99,a99),(100,a100),(101,a101),(104,a104),(105,a105),(106,a106),(108,a108),(109,a109),(110,a110),(111,a111),(112,a112),(113,a113),(114,Yi9),(115,a115),(116,a116),(117,a117),(118,a118),(119,a119),(120,a120),(121,a121),(126,a126),(132,a132),(133,a133),(138,Yi8),(139,a139),(140,Yi7),(141,a141),(142,a142),(143,a143),(144,a144),(145,a145),(146,a146),(148,a148),(149,a149),(150,a150),(151,a151),(152,a152),(153,a153),(154,a154),(155,a155),(156,a156),(157,a157),(158,a158),(163,a163),(164,a164),(165,a165),(166,a166),(167,Yhv),(168,a168),(171,a171)]++gl):=⟨⟨Try.f4,Try.func4,c4,by kernel_rfl⟩,⟨Try.f21,Try.func21,c21,by kernel_rfl⟩,⟨Try.f22,Try.func22,c22,by kernel_rfl⟩,⟨Try.f23,Try.func23,c23,by kernel_rfl⟩,⟨Try.f25,Try.func25,c25,by kernel_rfl⟩,⟨Try.f26,Try.func26,c26,by kernel_rfl⟩,⟨Try.f27,Try.func27,c27,by kernel_rfl⟩,⟨Try.f28,Try.func28,c28,by kernel_rfl⟩,⟨Try.f29,Try.func29,c29,by kernel_rfl⟩,⟨Try.f35,Try.func35,c35,by kernel_rfl⟩,⟨Try.f38,Try.func38,c38,by kernel_rfl⟩,⟨Try.f50,Try.func50,c50,by kernel_rfl⟩,⟨Try.f51,Try.func51,c51,by kernel_rfl⟩,⟨Try.f52,Try.func52,c52,by kernel_rfl⟩,⟨Try.f65,Try.func65,c65,by kernel_rfl⟩,⟨Try.f66,Try.func66,c66,by kernel_rfl⟩,⟨Try.f68,Try.func68,c68,by kernel_rfl⟩,⟨Try.f69,Try.func69,c69,by kernel_rfl⟩,⟨Try.f70,Try.func70,c70,by kernel_rfl⟩,⟨Try.f71,Try.func71,c71,by kernel_rfl⟩,⟨Try.f72,Try.func72,c72,by kernel_rfl⟩,⟨Try.f73,Try.func73,c73,by kernel_rfl⟩,⟨Try.f74,Try.func74,c74,by kernel_rfl⟩,⟨Try.f75,Try.func75,c75,by kernel_rfl⟩,⟨Try.f76,Try.func76,c76,by kernel_rfl⟩,⟨Try.f78,Try.func78,c78,by kernel_rfl⟩,⟨Try.f82,Try.func82,c82,by kernel_rfl⟩,⟨Try.f83,Try.func83,c83,by kernel_rfl⟩,⟨Try.f90,Try.func90,c90,by kernel_rfl⟩,⟨Try.f93,Try.func93,c93,by kernel_rfl⟩,⟨Try.f94,Try.func94,c94,by kernel_rfl⟩,⟨Try.f95,Try.func95,c95,by kernel_rfl⟩,⟨Try.f96,Try.func96,c96,by kernel_rfl⟩,⟨Try.f97,Try.func97,c97,by kernel_rfl⟩,⟨Try.f98,Try.func98,c98,by kernel_rfl⟩,⟨Try.f99,Try.func99,c99,by kernel_rfl⟩,⟨Try.f100,Try.func100,c100,by kernel_rfl⟩,⟨Try.f101,Try.func101,c101,by kernel_rfl⟩,⟨Try.f104,Try.func104,c104,by kernel_rfl⟩,⟨Try.f105,Try.func105,c105,by kernel_rfl⟩,⟨Try.f106,Try.func106,c106,by kernel_rfl⟩,⟨Try.f108,Try.func108,c108,by kernel_rfl⟩,⟨Try.f109,Try.func109,c109,by kernel_rfl⟩,⟨Try.f110,Try.func110,c110,by kernel_rfl⟩,⟨Try.f111,Try.func111,c111,by kernel_rfl⟩,⟨Try.f112,Try.func112,c112,by kernel_rfl⟩,⟨Try.f113,Try.func113,c113,by kernel_rfl⟩,⟨Try.f114,Try.func114,c114,by kernel_rfl⟩,⟨Try.f115,Try.func115,c115,by kernel_rfl⟩,⟨Try.f116,Try.func116,c116,by kernel_rfl⟩,⟨Try.f117,Try.func117,c117,by kernel_rfl⟩,⟨Try.f118,Try.func118,c118,by kernel_rfl⟩,⟨Try.f119,Try.func119,c119,by kernel_rfl⟩,⟨Try.f120,Try.func120,c120,by kernel_rfl⟩,⟨Try.f121,Try.func121,c121,by kernel_rfl⟩,⟨Try.f126,Try.func126,c126,by kernel_rfl⟩,⟨Try.f132,Try.func132,c132,by kernel_rfl⟩,⟨Try.f133,Try.func133,c133,by kernel_rfl⟩,⟨Try.f138,Try.func138,c138,by kernel_rfl⟩,⟨Try.f139,Try.func139,c139,by kernel_rfl⟩,⟨Try.f140,Try.func140,c140,by kernel_rfl⟩,⟨Try.f141,Try.func141,c141,by kernel_rfl⟩,⟨Try.f142,Try.func142,c142,by kernel_rfl⟩,⟨Try.f143,Try.func143,c143,by kernel_rfl⟩,⟨Try.f144,Try.func144,c144,by kernel_rfl⟩,⟨Try.f145,Try.func145,c145,by kernel_rfl⟩,⟨Try.f146,Try.func146,c146,by kernel_rfl⟩,⟨Try.f148,Try.func148,c148,by kernel_rfl⟩,⟨Try.f149,Try.func149,c149,by kernel_rfl⟩,⟨Try.f150,Try.func150,c150,by kernel_rfl⟩,⟨Try.f151,Try.func151,c151,by kernel_rfl⟩,⟨Try.f152,Try.func152,c152,by kernel_rfl⟩,⟨Try.f153,Try.func153,c153,by kernel_rfl⟩,⟨Try.f154,Try.func154,c154,by kernel_rfl⟩,⟨Try.f155,Try.func155,c155,by kernel_rfl⟩,⟨Try.f156,Try.func156,c156,by kernel_rfl⟩,⟨Try.f157,Try.func157,c157,by kernel_rfl⟩,⟨Try.f158,Try.func158,c158,by kernel_rfl⟩,⟨Try.f163,Try.func163,c163,by kernel_rfl⟩,⟨Try.f164,Try.func164,c164,by kernel_rfl⟩,⟨Try.f165,Try.func165,c165,by kernel_rfl⟩,⟨Try.f166,Try.func166,c166,by kernel_rfl⟩,⟨Try.f167,Try.func167,c167,by kernel_rfl⟩,⟨Try.f168,Try.func168,c168,by kernel_rfl⟩,⟨Try.f171,Try.func171,c171,by kernel_rfl⟩,gOk⟩
theorem hasB4:Zaf Try.prog 4:=⟨Try.f4,_,Try.func4,rfl,by kernel_rfl⟩
theorem hasB21:Zaf Try.prog 21:=⟨Try.f21,_,Try.func21,rfl,by kernel_rfl⟩
theorem hasB22:Zaf Try.prog 22:=⟨Try.f22,_,Try.func22,rfl,by kernel_rfl⟩
theorem hasB23:Zaf Try.prog 23:=⟨Try.f23,_,Try.func23,rfl,by kernel_rfl⟩
theorem hasB25:Zaf Try.prog 25:=⟨Try.f25,_,Try.func25,rfl,by kernel_rfl⟩
theorem hasB26:Zaf Try.prog 26:=⟨Try.f26,_,Try.func26,rfl,by kernel_rfl⟩
theorem hasB27:Zaf Try.prog 27:=⟨Try.f27,_,Try.func27,rfl,by kernel_rfl⟩
theorem hasB28:Zaf Try.prog 28:=⟨Try.f28,_,Try.func28,rfl,by kernel_rfl⟩
theorem hasB29:Zaf Try.prog 29:=⟨Try.f29,_,Try.func29,rfl,by kernel_rfl⟩
theorem hasB35:Zaf Try.prog 35:=⟨Try.f35,_,Try.func35,rfl,by kernel_rfl⟩
theorem hasB38:Zaf Try.prog 38:=⟨Try.f38,_,Try.func38,rfl,by kernel_rfl⟩
theorem hasB50:Zaf Try.prog 50:=⟨Try.f50,_,Try.func50,rfl,by kernel_rfl⟩
theorem Yio:Zaf Try.prog 51:=⟨Try.f51,_,Try.func51,rfl,by kernel_rfl⟩
theorem hasB52:Zaf Try.prog 52:=⟨Try.f52,_,Try.func52,rfl,by kernel_rfl⟩
theorem hasB65:Zaf Try.prog 65:=⟨Try.f65,_,Try.func65,rfl,by kernel_rfl⟩
theorem hasB68:Zaf Try.prog 68:=⟨Try.f68,_,Try.func68,rfl,by kernel_rfl⟩
theorem hasB69:Zaf Try.prog 69:=⟨Try.f69,_,Try.func69,rfl,by kernel_rfl⟩
theorem hasB70:Zaf Try.prog 70:=⟨Try.f70,_,Try.func70,rfl,by kernel_rfl⟩
theorem hasB71:Zaf Try.prog 71:=⟨Try.f71,_,Try.func71,rfl,by kernel_rfl⟩
theorem hasB72:Zaf Try.prog 72:=⟨Try.f72,_,Try.func72,rfl,by kernel_rfl⟩
theorem hasB73:Zaf Try.prog 73:=⟨Try.f73,_,Try.func73,rfl,by kernel_rfl⟩
theorem hasB75:Zaf Try.prog 75:=⟨Try.f75,_,Try.func75,rfl,by kernel_rfl⟩
theorem hasB76:Zaf Try.prog 76:=⟨Try.f76,_,Try.func76,rfl,by kernel_rfl⟩
theorem hasB78:Zaf Try.prog 78:=⟨Try.f78,_,Try.func78,rfl,by kernel_rfl⟩
theorem hasB83:Zaf Try.prog 83:=⟨Try.f83,_,Try.func83,rfl,by kernel_rfl⟩
theorem hasB90:Zaf Try.prog 90:=⟨Try.f90,_,Try.func90,rfl,by kernel_rfl⟩
theorem hasB94:Zaf Try.prog 94:=⟨Try.f94,_,Try.func94,rfl,by kernel_rfl⟩
theorem hasB95:Zaf Try.prog 95:=⟨Try.f95,_,Try.func95,rfl,by kernel_rfl⟩
theorem hasB101:Zaf Try.prog 101:=⟨Try.f101,_,Try.func101,rfl,by kernel_rfl⟩
theorem hasB104:Zaf Try.prog 104:=⟨Try.f104,_,Try.func104,rfl,by kernel_rfl⟩
theorem hasB106:Zaf Try.prog 106:=⟨Try.f106,_,Try.func106,rfl,by kernel_rfl⟩
theorem hasB110:Zaf Try.prog 110:=⟨Try.f110,_,Try.func110,rfl,by kernel_rfl⟩
theorem hasB112:Zaf Try.prog 112:=⟨Try.f112,_,Try.func112,rfl,by kernel_rfl⟩
theorem hasB113:Zaf Try.prog 113:=⟨Try.f113,_,Try.func113,rfl,by kernel_rfl⟩
theorem Yci:Zaf Try.prog 114:=⟨Try.f114,_,Try.func114,rfl,by kernel_rfl⟩
theorem hasB115:Zaf Try.prog 115:=⟨Try.f115,_,Try.func115,rfl,by kernel_rfl⟩
theorem hasB116:Zaf Try.prog 116:=⟨Try.f116,_,Try.func116,rfl,by kernel_rfl⟩
theorem hasB117:Zaf Try.prog 117:=⟨Try.f117,_,Try.func117,rfl,by kernel_rfl⟩
theorem hasB119:Zaf Try.prog 119:=⟨Try.f119,_,Try.func119,rfl,by kernel_rfl⟩
theorem hasB120:Zaf Try.prog 120:=⟨Try.f120,_,Try.func120,rfl,by kernel_rfl⟩
theorem hasB132:Zaf Try.prog 132:=⟨Try.f132,_,Try.func132,rfl,by kernel_rfl⟩
theorem Ych:Zaf Try.prog 138:=⟨Try.f138,_,Try.func138,rfl,by kernel_rfl⟩
theorem Ycg:Zaf Try.prog 140:=⟨Try.f140,_,Try.func140,rfl,by kernel_rfl⟩
theorem Ycf:Zaf Try.prog 142:=⟨Try.f142,_,Try.func142,rfl,by kernel_rfl⟩
theorem hasB143:Zaf Try.prog 143:=⟨Try.f143,_,Try.func143,rfl,by kernel_rfl⟩
theorem hasB148:Zaf Try.prog 148:=⟨Try.f148,_,Try.func148,rfl,by kernel_rfl⟩
theorem hasB149:Zaf Try.prog 149:=⟨Try.f149,_,Try.func149,rfl,by kernel_rfl⟩
theorem hasB150:Zaf Try.prog 150:=⟨Try.f150,_,Try.func150,rfl,by kernel_rfl⟩
theorem hasB151:Zaf Try.prog 151:=⟨Try.f151,_,Try.func151,rfl,by kernel_rfl⟩
theorem hasB152:Zaf Try.prog 152:=⟨Try.f152,_,Try.func152,rfl,by kernel_rfl⟩
theorem hasB153:Zaf Try.prog 153:=⟨Try.f153,_,Try.func153,rfl,by kernel_rfl⟩
theorem hasB155:Zaf Try.prog 155:=⟨Try.f155,_,Try.func155,rfl,by kernel_rfl⟩
theorem hasB156:Zaf Try.prog 156:=⟨Try.f156,_,Try.func156,rfl,by kernel_rfl⟩
theorem hasB157:Zaf Try.prog 157:=⟨Try.f157,_,Try.func157,rfl,by kernel_rfl⟩
theorem hasB163:Zaf Try.prog 163:=⟨Try.f163,_,Try.func163,rfl,by kernel_rfl⟩
theorem hasB165:Zaf Try.prog 165:=⟨Try.f165,_,Try.func165,rfl,by kernel_rfl⟩
theorem hasB166:Zaf Try.prog 166:=⟨Try.f166,_,Try.func166,rfl,by kernel_rfl⟩
theorem Yce:Zaf Try.prog 167:=⟨Try.f167,_,Try.func167,rfl,by kernel_rfl⟩
theorem hasB168:Zaf Try.prog 168:=⟨Try.f168,_,Try.func168,rfl,by kernel_rfl⟩
theorem Ycd:Zaf Try.prog 171:=⟨Try.f171,_,Try.func171,rfl,by kernel_rfl⟩
noncomputable def eL1:Env:=⟨GL,.lf,ofT [(134,Zfr)]⟩
theorem Zej:EnvOk Try.prog eL1:=Zci (ol:=[]) rfl rfl rfl Zho trivial xOk
theorem cfg_ov:OvOk Try.prog 78 cfgF.O:=cfgF_ok Zej Zbi ⟨rfl,rfl,by kernel_rfl⟩ Try.func78 c78 hasB78
noncomputable def eL2:Env:=⟨GL,ofT [(78,cfgF.O)],ofT [(134,Zfr)]⟩
theorem eL2_ok:EnvOk Try.prog eL2:=Zci rfl rfl rfl Zho ⟨cfg_ov,trivial⟩ xOk
theorem told_ov:OvOk Try.prog 83 toldF.O:=Yey eL2_ok Zbi ⟨rfl,rfl⟩ Try.func83 c83 hasB83
noncomputable def eL3:Env:=⟨GL,ofT [(83,toldF.O)],ofT [(134,Zfr)]⟩
theorem Yiv:EnvOk Try.prog eL3:=Zci rfl rfl rfl Zho ⟨told_ov,trivial⟩ xOk
theorem Zxn:OvOk Try.prog 38 stripesF.O:=Ztv Yiv Zbi ⟨rfl,rfl⟩ Try.func38 c38 hasB38
theorem Yf2:OvOk Try.prog 94 oddF.O:=Ya9 Zej Zbi  Try.func94 c94 hasB94
noncomputable def eL4:Env:=⟨GL,ofT [(94,oddF.O)],ofT [(134,Zfr)]⟩
theorem eL4_ok:EnvOk Try.prog eL4:=Zci rfl rfl rfl Zho ⟨Yf2,trivial⟩ xOk
theorem Ygk:OvOk Try.prog 138 (idxF 94).O:=idxF_ok eL4_ok Zbi 94 ⟨rfl,rfl⟩ Try.func138 c138 Ych
theorem Ye9:OvOk Try.prog 95 slotsF.O:=Zz7 Zej Zbi  Try.func95 c95 hasB95
noncomputable def eL5:Env:=⟨GL,ofT [(38,stripesF.O),(138,(idxF 94).O),(95,slotsF.O)],ofT [(134,Zfr)]⟩
theorem eL5_ok:EnvOk Try.prog eL5:=Zci rfl rfl rfl Zho ⟨Zxn,Ygk,Ye9,trivial⟩ xOk
theorem dchk_ov:OvOk Try.prog 50 dchkF.O:=Yhg eL5_ok Zbi ⟨rfl,rfl⟩ ⟨rfl,rfl,by kernel_rfl⟩ ⟨rfl,rfl⟩ ⟨rfl,rfl⟩ Try.func50 c50 hasB50
theorem Zss:OvOk Try.prog 35 onF.O:=onF_ok Zej Zbi ⟨rfl,rfl,by kernel_rfl⟩ ⟨rfl,rfl,by kernel_rfl⟩ Try.func35 c35 hasB35
theorem Ye2:OvOk Try.prog 86 Zjv:=Zmz
theorem nchk_ov:OvOk Try.prog 132 nchkF.O:=Ygc Zej Zbi  Try.func132 c132 hasB132
theorem put2_ov:OvOk Try.prog 161 Zt7:=Zv1
theorem Zv7:OvOk Try.prog 107 Zjh:=Zqi
noncomputable def eL6:Env:=⟨GL,ofT [(132,nchkF.O),(161,Zt7),(107,Zjh)],ofT [(134,Zfr)]⟩
theorem eL6_ok:EnvOk Try.prog eL6:=Zci rfl rfl rfl Zho ⟨nchk_ov,put2_ov,Zv7,trivial⟩ xOk
theorem nw_ov:OvOk Try.prog 90 nwF.O:=nwF_ok eL6_ok Zbi ⟨rfl,rfl⟩ ⟨rfl,rfl,by kernel_rfl⟩ ⟨rfl,rfl⟩ ⟨rfl,rfl,by kernel_rfl⟩ ⟨rfl,rfl,by kernel_rfl⟩ ⟨rfl,rfl⟩ Try.func142 c142 Ycf Try.func90 c90 hasB90
noncomputable def eL7:Env:=⟨GL,ofT [(86,Zjv),(90,nwF.O)],ofT [(134,Zfr)]⟩
theorem eL7_ok:EnvOk Try.prog eL7:=Zci rfl rfl rfl Zho ⟨Ye2,nw_ov,trivial⟩ xOk
theorem nd_ov:OvOk Try.prog 52 ndF.O:=ndF_ok eL7_ok Zbi ⟨rfl,rfl⟩ ⟨rfl,rfl,by kernel_rfl⟩ ⟨rfl,rfl,by kernel_rfl⟩ ⟨rfl,rfl⟩ Try.func142 c142 Ycf Try.func52 c52 hasB52
theorem Ybb:OvOk Try.prog 143 oddF.O:=Zx6 Zej Zbi  Try.func143 c143 hasB143
noncomputable def eL8:Env:=⟨GL,ofT [(143,oddF.O)],ofT [(134,Zfr)]⟩
theorem Yiu:EnvOk Try.prog eL8:=Zci rfl rfl rfl Zho ⟨Ybb,trivial⟩ xOk
theorem dski_ov:OvOk Try.prog 138 Yiw:=dskI_ok Yiu Zbi ⟨rfl,rfl⟩ ⟨rfl,rfl,by kernel_rfl⟩ Try.func138 c138 Ych
theorem widx_ov:OvOk Try.prog 163 Ztn:=Yes Yiu Zbi ⟨rfl,rfl⟩ ⟨rfl,rfl,by kernel_rfl⟩ Try.func163 c163 hasB163
noncomputable def eL9:Env:=⟨GL,ofT [(138,Yiw),(163,Ztn)],ofT [(134,Zfr)]⟩
theorem eL9_ok:EnvOk Try.prog eL9:=Zci rfl rfl rfl Zho ⟨dski_ov,widx_ov,trivial⟩ xOk
theorem Ycu:OvOk Try.prog 101 dskF.O:=dskF_ok eL9_ok Zbi ⟨rfl,rfl,by kernel_rfl⟩ ⟨rfl,rfl⟩ ⟨rfl,rfl,by kernel_rfl⟩ ⟨rfl,rfl⟩ Try.func101 c101 hasB101
noncomputable def eL10:Env:=⟨GL,ofT [(101,dskF.O)],ofT [(134,Zfr)]⟩
theorem Yct:EnvOk Try.prog eL10:=Zci rfl rfl rfl Zho ⟨Ycu,trivial⟩ xOk
theorem drdf_ov:OvOk Try.prog 51 drdF.O:=drdF_ok Yct Zbi ⟨rfl,rfl⟩ ⟨rfl,rfl,by kernel_rfl⟩ ⟨rfl,rfl,by kernel_rfl⟩ ⟨rfl,rfl,by kernel_rfl⟩ ⟨rfl,rfl,by kernel_rfl⟩ ⟨rfl,rfl,by kernel_rfl⟩ Try.func140 c140 Ycg Try.func51 c51 Yio
theorem drdo_ov:OvOk Try.prog 51 drdO:=drdO_ok Yct Zbi ⟨rfl,rfl⟩ ⟨rfl,rfl,by kernel_rfl⟩ ⟨rfl,rfl,by kernel_rfl⟩ ⟨rfl,rfl,by kernel_rfl⟩ ⟨rfl,rfl,by kernel_rfl⟩ ⟨rfl,rfl,by kernel_rfl⟩ Try.func140 c140 Ycg Try.func51 c51 Yio
theorem Zpm:OvOk Try.prog 104 journalF.O:=Zuo Yiv Zbi ⟨rfl,rfl⟩ Try.func104 c104 hasB104
noncomputable def eL11:Env:=⟨GL,ofT [(104,journalF.O),(101,dskF.O)],ofT [(134,Zfr)]⟩
theorem eL11_ok:EnvOk Try.prog eL11:=Zci rfl rfl rfl Zho ⟨Zpm,Ycu,trivial⟩ xOk
theorem ask_ov:OvOk Try.prog 65 askF.O:=askF_ok eL11_ok Zbi ⟨rfl,rfl⟩ ⟨rfl,rfl⟩ ⟨rfl,rfl,by kernel_rfl⟩ Try.func65 c65 hasB65
theorem Ycv:OvOk Try.prog 51 Zrb:=drdV_ok drdf_ov drdo_ov
noncomputable def eL12:Env:=⟨GL,ofT [(65,askF.O),(50,dchkF.O),(35,onF.O),(51,Zrb),(52,ndF.O),(107,Zjh)],ofT [(134,Zfr)]⟩
theorem eL12_ok:EnvOk Try.prog eL12:=Zci rfl rfl rfl Zho ⟨ask_ov,dchk_ov,Zss,Ycv,nd_ov,Zv7,trivial⟩ xOk
theorem dr_ov:OvOk Try.prog 23 drF.O:=drF_ok eL12_ok Zbi ⟨rfl,rfl⟩ ⟨rfl,rfl⟩ ⟨rfl,rfl⟩ ⟨rfl,rfl⟩ ⟨rfl,rfl⟩ ⟨rfl,rfl,by kernel_rfl⟩ ⟨rfl,rfl,by kernel_rfl⟩ ⟨rfl,rfl⟩ Try.func106 c106 hasB106 Try.func23 c23 hasB23
theorem Yfs:OvOk Try.prog 41 Zrv:=read_ok
noncomputable def eL13:Env:=⟨GL,ofT [(104,journalF.O),(101,dskF.O),(51,Zrb),(41,Zrv)],ofT [(134,Zfr)]⟩
theorem eL13_ok:EnvOk Try.prog eL13:=Zci rfl rfl rfl Zho ⟨Zpm,Ycu,Ycv,Yfs,trivial⟩ xOk
theorem fst_ov:OvOk Try.prog 73 fstF.O:=fstF_ok eL13_ok Zbi ⟨rfl,rfl⟩ ⟨rfl,rfl⟩ ⟨rfl,rfl⟩ ⟨rfl,rfl⟩ Try.func73 c73 hasB73
noncomputable def eL14:Env:=⟨GL,ofT [(73,fstF.O),(35,onF.O),(23,drF.O)],ofT [(134,Zfr)]⟩
theorem eL14_ok:EnvOk Try.prog eL14:=Zci rfl rfl rfl Zho ⟨fst_ov,Zss,dr_ov,trivial⟩ xOk
theorem all_ov:OvOk Try.prog 27 allF.O:=allF_ok eL14_ok Zbi ⟨rfl,rfl⟩ ⟨rfl,rfl⟩ ⟨rfl,rfl⟩ ⟨rfl,rfl,by kernel_rfl⟩ ⟨rfl,rfl,by kernel_rfl⟩ Try.func117 c117 hasB117 Try.func27 c27 hasB27
theorem Zjd:OvOk Try.prog 114 wholeF.O:=Zzr Zej Zbi  Try.func114 c114 Yci
noncomputable def eL15:Env:=⟨GL,ofT [(114,wholeF.O)],ofT [(134,Zfr)]⟩
theorem Ycs:EnvOk Try.prog eL15:=Zci rfl rfl rfl Zho ⟨Zjd,trivial⟩ xOk
theorem Yak:OvOk Try.prog 71 same2F.O:=Yal Ycs Zbi ⟨rfl,rfl⟩ Try.func71 c71 hasB71
noncomputable def eL16:Env:=⟨GL,ofT [(71,same2F.O)],ofT [(134,Zfr)]⟩
theorem eL16_ok:EnvOk Try.prog eL16:=Zci rfl rfl rfl Zho ⟨Yak,trivial⟩ xOk
theorem Yam:OvOk Try.prog 25 sameF.O:=Yfn eL16_ok Zbi ⟨rfl,rfl⟩ Try.func25 c25 hasB25
theorem Ybe:OvOk Try.prog 150 numRF.O:=Yf5 Ycs Zbi ⟨rfl,rfl⟩ ⟨rfl,rfl,by kernel_rfl⟩ Try.func150 c150 hasB150
theorem with_ov:OvOk Try.prog 168 withF.O:=Yer Zej Zbi  Try.func168 c168 hasB168
noncomputable def eL17:Env:=⟨GL,ofT [(168,withF.O)],ofT [(134,Zfr)]⟩
theorem eL17_ok:EnvOk Try.prog eL17:=Zci rfl rfl rfl Zho ⟨with_ov,trivial⟩ xOk
theorem Yfy:OvOk Try.prog 153 overRF.O:=Ya7 eL17_ok Zbi ⟨rfl,rfl⟩ Try.func153 c153 hasB153
noncomputable def eL18:Env:=⟨GL,ofT [(153,overRF.O)],ofT [(134,Zfr)]⟩
theorem eL18_ok:EnvOk Try.prog eL18:=Zci rfl rfl rfl Zho ⟨Yfy,trivial⟩ xOk
theorem Zts:OvOk Try.prog 115 sumRF.O:=Ye6 eL18_ok Zbi ⟨rfl,rfl⟩ Try.func115 c115 hasB115
theorem Zls:OvOk Try.prog 114 Zdx:=Zxk Zej Zbi  Try.func114 c114 Yci
noncomputable def eL19:Env:=⟨GL,ofT [(114,Zdx)],ofT [(134,Zfr)]⟩
theorem eL19_ok:EnvOk Try.prog eL19:=Zci rfl rfl rfl Zho ⟨Zls,trivial⟩ xOk
theorem wth_ov:OvOk Try.prog 171 wthF.O:=wthF_ok eL19_ok Zbi ⟨rfl,rfl⟩ Try.func171 c171 Ycd
theorem Zlv:OvOk Try.prog 114 wholeF.O:=Zjd
noncomputable def eL20:Env:=⟨GL,ofT [(114,wholeF.O),(115,sumRF.O),(171,wthF.O)],ofT [(134,Zfr)]⟩
theorem eL20_ok:EnvOk Try.prog eL20:=Zci rfl rfl rfl Zho ⟨Zlv,Zts,wth_ov,trivial⟩ xOk
theorem Yfd:OvOk Try.prog 167 sealRF.O:=Yae eL20_ok Zbi ⟨rfl,rfl⟩ ⟨rfl,rfl⟩ ⟨rfl,rfl⟩ Try.func167 c167 Yce
theorem Zwt:OvOk Try.prog 166 fourF.O:=Ygw Zej Zbi  Try.func166 c166 hasB166
noncomputable def eL21:Env:=⟨GL,ofT [(166,fourF.O),(167,sealRF.O)],ofT [(134,Zfr)]⟩
theorem eL21_ok:EnvOk Try.prog eL21:=Zci rfl rfl rfl Zho ⟨Zwt,Yfd,trivial⟩ xOk
theorem nbk_ov:OvOk Try.prog 152 nbkF.O:=nbkF_ok eL21_ok Zbi ⟨rfl,rfl⟩ ⟨rfl,rfl⟩ Try.func152 c152 hasB152
theorem Zm4:OvOk Try.prog 149 sizF.O:=Zxp Zej Zbi  Try.func149 c149 hasB149
theorem slt_ov:OvOk Try.prog 165 sltF.O:=sltF_ok Zej Zbi  Try.func165 c165 hasB165
noncomputable def eL22:Env:=⟨GL,ofT [(165,sltF.O)],ofT [(134,Zfr)]⟩
theorem eL22_ok:EnvOk Try.prog eL22:=Zci rfl rfl rfl Zho ⟨slt_ov,trivial⟩ xOk
theorem nmay_ov:OvOk Try.prog 151 nmayF.O:=Yga eL22_ok Zbi ⟨rfl,rfl⟩ Try.func151 c151 hasB151
noncomputable def eL23:Env:=⟨GL,ofT [(149,sizF.O),(114,wholeF.O),(150,numRF.O),(151,nmayF.O),(152,nbkF.O)],ofT [(134,Zfr)]⟩
theorem eL23_ok:EnvOk Try.prog eL23:=Zci rfl rfl rfl Zho ⟨Zm4,Zlv,Ybe,nmay_ov,nbk_ov,trivial⟩ xOk
theorem nrd_ov:OvOk Try.prog 112 ndF.O:=Ybh eL23_ok Zbi ⟨rfl,rfl⟩ ⟨rfl,rfl⟩ ⟨rfl,rfl⟩ ⟨rfl,rfl⟩ ⟨rfl,rfl⟩ Try.func112 c112 hasB112
theorem Zlt:OvOk Try.prog 114 Zdx:=Zls
theorem sumv_ov:OvOk Try.prog 115 Ztt:=Ye5 Zts
theorem full_ov:OvOk Try.prog 72 fullF.O:=Ygv Zej Zbi  Try.func72 c72 hasB72
noncomputable def eL24:Env:=⟨GL,ofT [(72,fullF.O)],ofT [(134,Zfr)]⟩
theorem Ycr:EnvOk Try.prog eL24:=Zci rfl rfl rfl Zho ⟨full_ov,trivial⟩ xOk
theorem Yad:OvOk Try.prog 120 seenF.O:=Yfc Ycr Zbi ⟨rfl,rfl⟩ ⟨rfl,rfl,by kernel_rfl⟩ Try.func120 c120 hasB120
noncomputable def eL25:Env:=⟨GL,ofT [(120,seenF.O)],ofT [(134,Zfr)]⟩
theorem eL25_ok:EnvOk Try.prog eL25:=Zci rfl rfl rfl Zho ⟨Yad,trivial⟩ xOk
theorem atr_ov:OvOk Try.prog 113 atF.O:=atF_ok eL25_ok Zbi ⟨rfl,rfl⟩ Try.func113 c113 hasB113
theorem Zz6:OvOk Try.prog 155 slotsF.O:=Zxo Zej Zbi  Try.func155 c155 hasB155
noncomputable def eL26:Env:=⟨GL,ofT [(155,slotsF.O),(149,sizF.O)],ofT [(134,Zfr)]⟩
theorem eL26_ok:EnvOk Try.prog eL26:=Zci rfl rfl rfl Zho ⟨Zz6,Zm4,trivial⟩ xOk
theorem dlm_ov:OvOk Try.prog 116 dlmF.O:=dlmF_ok eL26_ok Zbi ⟨rfl,rfl,by kernel_rfl⟩ ⟨rfl,rfl⟩ ⟨rfl,rfl⟩ Try.func116 c116 hasB116
noncomputable def eL27:Env:=⟨GL,ofT [(113,atF.O),(112,ndF.O),(114,Zdx),(115,Ztt),(116,dlmF.O)],ofT [(134,Zfr)]⟩
theorem eL27_ok:EnvOk Try.prog eL27:=Zci rfl rfl rfl Zho ⟨atr_ov,nrd_ov,Zlt,sumv_ov,dlm_ov,trivial⟩ xOk
theorem std_ov:OvOk Try.prog 70 stdF.O:=stdF_ok eL27_ok Zbi ⟨rfl,rfl⟩ ⟨rfl,rfl⟩ ⟨rfl,rfl⟩ ⟨rfl,rfl⟩ ⟨rfl,rfl⟩ Try.func70 c70 hasB70
noncomputable def eL28:Env:=⟨GL,ofT [(114,Zdx)],ofT [(134,Zfr)]⟩
theorem eL28_ok:EnvOk Try.prog eL28:=Zci rfl rfl rfl Zho ⟨Zlt,trivial⟩ xOk
theorem wthr_ov:OvOk Try.prog 171 Zzn:=Yeq eL28_ok Zbi ⟨rfl,rfl⟩ Try.func171 c171 Ycd
theorem Zlu:OvOk Try.prog 114 wholeF.O:=Zjd
theorem sums_ov:OvOk Try.prog 115 sumRF.O:=Zts
noncomputable def eL29:Env:=⟨GL,ofT [(114,wholeF.O),(115,sumRF.O),(171,Zzn)],ofT [(134,Zfr)]⟩
theorem eL29_ok:EnvOk Try.prog eL29:=Zci rfl rfl rfl Zho ⟨Zlu,sums_ov,wthr_ov,trivial⟩ xOk
theorem Yfe:OvOk Try.prog 167 Zpb:=Yag eL29_ok Zbi ⟨rfl,rfl⟩ ⟨rfl,rfl⟩ ⟨rfl,rfl⟩ Try.func167 c167 Yce
noncomputable def eL30:Env:=⟨GL,ofT [(166,fourF.O),(167,Zpb)],ofT [(134,Zfr)]⟩
theorem eL30_ok:EnvOk Try.prog eL30:=Zci rfl rfl rfl Zho ⟨Zwt,Yfe,trivial⟩ xOk
theorem sblk_ov:OvOk Try.prog 157 sblkF.O:=Yfm eL30_ok Zbi ⟨rfl,rfl⟩ ⟨rfl,rfl⟩ Try.func157 c157 hasB157
theorem supm_ov:OvOk Try.prog 156 supMF.O:=Ye4 Zej Zbi  Try.func156 c156 hasB156
noncomputable def eL31:Env:=⟨GL,ofT [(149,sizF.O),(114,wholeF.O),(150,numRF.O),(156,supMF.O),(157,sblkF.O)],ofT [(134,Zfr)]⟩
theorem eL31_ok:EnvOk Try.prog eL31:=Zci rfl rfl rfl Zho ⟨Zm4,Zlu,Ybe,supm_ov,sblk_ov,trivial⟩ xOk
theorem rd10_ov:OvOk Try.prog 119 rd10F.O:=Yft eL31_ok Zbi ⟨rfl,rfl⟩ ⟨rfl,rfl⟩ ⟨rfl,rfl⟩ ⟨rfl,rfl⟩ ⟨rfl,rfl⟩ Try.func119 c119 hasB119
noncomputable def eL32:Env:=⟨GL,ofT [(120,seenF.O),(119,rd10F.O)],ofT [(134,Zfr)]⟩
theorem eL32_ok:EnvOk Try.prog eL32:=Zci rfl rfl rfl Zho ⟨Yad,rd10_ov,trivial⟩ xOk
theorem fir_ov:OvOk Try.prog 75 firF.O:=firF_ok eL32_ok Zbi ⟨rfl,rfl⟩ ⟨rfl,rfl⟩ Try.func75 c75 hasB75
noncomputable def eL33:Env:=⟨GL,ofT [(70,stdF.O)],ofT [(134,Zfr)]⟩
theorem eL33_ok:EnvOk Try.prog eL33:=Zci rfl rfl rfl Zho ⟨std_ov,trivial⟩ xOk
theorem dls_ov:OvOk Try.prog 76 delF.O:=delF_ok eL33_ok Zbi ⟨rfl,rfl⟩ Try.func76 c76 hasB76
theorem mayr_ov:OvOk Try.prog 68 mayRF.O:=Ygd Zej Zbi ⟨rfl,rfl,by kernel_rfl⟩ ⟨rfl,rfl,by kernel_rfl⟩ Try.func68 c68 hasB68
theorem Yab:OvOk Try.prog 148 sizF.O:=Zxq Zej Zbi  Try.func148 c148 hasB148
noncomputable def eL34:Env:=⟨GL,ofT [(148,sizF.O)],ofT [(134,Zfr)]⟩
theorem eL34_ok:EnvOk Try.prog eL34:=Zci rfl rfl rfl Zho ⟨Yab,trivial⟩ xOk
theorem dmay_ov:OvOk Try.prog 110 dmayF.O:=Yhf eL34_ok Zbi ⟨rfl,rfl⟩ Try.func110 c110 hasB110
noncomputable def eL35:Env:=⟨GL,ofT [(110,dmayF.O)],ofT [(134,Zfr)]⟩
theorem eL35_ok:EnvOk Try.prog eL35:=Zci rfl rfl rfl Zho ⟨dmay_ov,trivial⟩ xOk
theorem jnl_ov:OvOk Try.prog 69 jnlF.O:=jnlF_ok eL35_ok Zbi ⟨rfl,rfl⟩ ⟨rfl,rfl,by kernel_rfl⟩ Try.func69 c69 hasB69
noncomputable def eL36:Env:=⟨GL,ofT [(68,mayRF.O),(69,jnlF.O),(75,firF.O),(76,delF.O)],ofT [(134,Zfr)]⟩
theorem eL36_ok:EnvOk Try.prog eL36:=Zci rfl rfl rfl Zho ⟨mayr_ov,jnl_ov,fir_ov,dls_ov,trivial⟩ xOk
theorem rall_ov:OvOk Try.prog 28 allF.O:=Yfx eL36_ok Zbi ⟨rfl,rfl⟩ ⟨rfl,rfl⟩ ⟨rfl,rfl⟩ ⟨rfl,rfl⟩ Try.func28 c28 hasB28
theorem grt4_ov:OvOk Try.prog 21 grt4F.O:=Ygq Zej Zbi  Try.func21 c21 hasB21
theorem twn4_ov:OvOk Try.prog 22 twn4F.O:=Yev Zej Zbi  Try.func22 c22 hasB22
noncomputable def eL37:Env:=⟨GL,ofT [(25,sameF.O)],ofT [(134,Zfr)]⟩
theorem eL37_ok:EnvOk Try.prog eL37:=Zci rfl rfl rfl Zho ⟨Yam,trivial⟩ xOk
theorem Yan:OvOk Try.prog 29 sfF.O:=sfF_ok eL37_ok Zbi ⟨rfl,rfl⟩ Try.func29 c29 hasB29
theorem sam4_ov:OvOk Try.prog 26 sam4F.O:=Yfo Ycr Zbi ⟨rfl,rfl⟩ Try.func26 c26 hasB26
noncomputable def eL38:Env:=⟨GL,ofT [(21,grt4F.O),(22,twn4F.O),(27,allF.O),(28,allF.O),(29,sfF.O),(26,sam4F.O)],ofT [(134,Zfr)]⟩
theorem eL38_ok:EnvOk Try.prog eL38:=Zci rfl rfl rfl Zho ⟨grt4_ov,twn4_ov,all_ov,rall_ov,Yan,sam4_ov,trivial⟩ xOk
theorem Zur:STIn eL38:=⟨⟨rfl,rfl⟩,⟨rfl,rfl⟩,⟨rfl,rfl⟩,⟨rfl,rfl⟩,⟨rfl,rfl⟩,⟨rfl,rfl⟩⟩
theorem scanTells_C (c:Cfg) (d:DK) (hc:c.ok) (hd:d.any) (hu:uns 2 d.c=true):
 CO Try.prog 4 [c.v,d.v] (fun u _=>u=.bool true):=
 Yh3 Try.func4 c4 (Zzw Try.prog eL38 eL38_ok Zbi Zur c hc d hd hu)
end Go.AM
