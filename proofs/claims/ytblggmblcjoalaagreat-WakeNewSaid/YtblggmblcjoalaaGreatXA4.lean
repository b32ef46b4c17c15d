/- Contracts of functions over the abstract machine. No conditions. -/
import Derived.Test.YtblggmblcjoalaaGreatXN
set_option maxRecDepth 100000
namespace Go.AM
noncomputable section
open Go.Proofs
namespace X
def q12:FA Tryz.f12:=⟨_,by conv=>lhs;cbv⟩
def a12:=q12.1
theorem g12:GK 12 Tryz.f12 a12:={ c:=q12.2,f:=Tryz.func12 }
def q34:FA Tryz.f34:=⟨_,by conv=>lhs;cbv⟩
def a34:=q34.1
theorem g34:GK 34 Tryz.f34 a34:={ c:=q34.2,f:=Tryz.func34 }
def q71:FA Tryz.f71:=⟨_,by conv=>lhs;cbv⟩
def a71:=q71.1
theorem g71:GK 71 Tryz.f71 a71:={ c:=q71.2,f:=Tryz.func71 }
def q80:FA Tryz.f80:=⟨_,by conv=>lhs;cbv⟩
def a80:=q80.1
theorem g80:GK 80 Tryz.f80 a80:={ c:=q80.2,f:=Tryz.func80 }
def q89:FA Tryz.f89:=⟨_,by conv=>lhs;cbv⟩
def a89:=q89.1
theorem g89:GK 89 Tryz.f89 a89:={ c:=q89.2,f:=Tryz.func89 }
def q91:FA Tryz.f91:=⟨_,by conv=>lhs;cbv⟩
def a91:=q91.1
theorem g91:GK 91 Tryz.f91 a91:={ c:=q91.2,f:=Tryz.func91 }
def q92:FA Tryz.f92:=⟨_,by conv=>lhs;cbv⟩
def a92:=q92.1
theorem g92:GK 92 Tryz.f92 a92:={ c:=q92.2,f:=Tryz.func92 }
def q106:FA Tryz.f106:=⟨_,by conv=>lhs;cbv⟩
def a106:=q106.1
theorem g106:GK 106 Tryz.f106 a106:={ c:=q106.2,f:=Tryz.func106 }
def q110:FA Tryz.f110:=⟨_,by conv=>lhs;cbv⟩
def a110:=q110.1
theorem g110:GK 110 Tryz.f110 a110:={ c:=q110.2,f:=Tryz.func110 }
def q129:FA Tryz.f129:=⟨_,by conv=>lhs;cbv⟩
def a129:=q129.1
theorem g129:GK 129 Tryz.f129 a129:={ c:=q129.2,f:=Tryz.func129 }
def a131:AFn:=⟨(.seq (.reg [.mk 4 (.box 167 4 (.t 1)) none]) (.seq (.seq (.reg [.mk 10 (.fa 3 (.t 3)) none,.mk 11 (.ld1 (.t 9)) none,.mk 12 (.len (.t 10)) none,.mk 13 (.bin .gtr (.t 11) (.c (.int .i64 0))) none]) (.cond (.t 12) (.seq (.seq (.reg [.mk 14 (.mv (.t 0)) none,.mk 15 (.nilck (.t 13)) none,.mk 16 (.fa 0 (.t 14)) none,.mk 17 (.ld1 (.t 15)) none,.mk 18 (.fa 0 (.t 3)) none,.mk 19 (.ld1 (.t 17)) none,.mk 20 (.mget .nilp false (.t 16) (.t 18)) none,.mk 21 (.eqb 1 true (.t 19) (.c .nilp)) none]) (.cond (.t 20) (.seq (.reg [.mk 22 (.mv (.t 0)) none,.mk 23 (.nilck (.t 21)) none,.mk 24 (.fa 0 (.t 22)) none,.mk 25 (.ld1 (.t 23)) none,.mk 26 (.fa 0 (.t 3)) none,.mk 27 (.ld1 (.t 25)) none,.mk 0 (.mdel (.t 24) (.t 26)) none]) (.reg [.mk 28 (.mv (.t 0)) none,.mk 29 (.mv (.t 0)) none,.mk 30 (.nilck (.t 28)) none,.mk 31 (.fa 1 (.t 29)) none,.mk 32 (.ld1 (.t 30)) none,.mk 33 (.mkfn 202 [] [(.t 3)]) none,.mk 34 (.scall 201 [(.t 31),(.t 32)]) none,.mk 35 (.nilck (.t 27)) none,.mk 36 (.fa 1 (.t 34)) none,.mk 0 (.st 1 (.t 35) (.t 33)) none])) .skip)) .ret) .skip)) (.seq (.reg [.mk 37 (.mv (.t 0)) none,.mk 38 (.nilck (.t 36)) none,.mk 39 (.fa 0 (.t 37)) none,.mk 40 (.ld1 (.t 38)) none,.mk 41 (.fa 0 (.t 3)) none,.mk 42 (.ld1 (.t 40)) none,.mk 43 (.mget .nilp false (.t 39) (.t 41)) none,.mk 5 (.mv (.t 42)) none]) (.seq (.seq (.reg [.mk 44 (.mv (.t 4)) none,.mk 45 (.eqb 1 false (.t 43) (.c .nilp)) none]) (.cond (.t 44) (.seq (.reg [.mk 46 (.fa 0 (.t 3)) none,.mk 47 (.ld1 (.t 45)) none,.mk 48 (.build [(.int .i64 0),.nils,.nils,.nils] [(0,1,(.t 46))]) none,.mk 49 (.box 167 4 (.t 47)) none,.mk 5 (.mv (.t 48)) none]) (.reg [.mk 50 (.mv (.t 0)) none,.mk 51 (.nilck (.t 49)) none,.mk 52 (.fa 0 (.t 50)) none,.mk 53 (.ld1 (.t 51)) none,.mk 54 (.fa 0 (.t 3)) none,.mk 55 (.ld1 (.t 53)) none,.mk 56 (.mv (.t 0)) none,.mk 57 (.mv (.t 4)) none,.mk 58 (.mv (.t 0)) none,.mk 59 (.nilck (.t 57)) none,.mk 60 (.fa 1 (.t 58)) none,.mk 61 (.ld1 (.t 59)) none,.mk 62 (.fa 0 (.t 3)) none,.mk 63 (.ld1 (.t 61)) none,.mk 64 (.bsl 3 1 1 [(.int .i64 0)] [(0,1,(.t 62))]) none,.mk 65 (.app 3 1 (.t 60) (.t 63)) none,.chk 52 (.ld1 (.t 51)) none,.chk 54 (.ld1 (.t 53)) none,.mk 66 (.bad) none,.mk 67 (.ext (.t 65) 1) none,.mk 0 (.bad) none,.mk 68 (.nilck (.t 55)) none,.mk 69 (.fa 1 (.t 67)) none,.mk 0 (.st 1 (.t 68) (.t 64)) none])) .skip)) (.seq (.reg [.mk 70 (.fa 1 (.t 3)) none,.mk 71 (.ld1 (.t 69)) none,.mk 72 (.len (.t 70)) none,.mk 73 (.mv (.c (.int .i64 0))) none]) (.block 0 (.loop (.seq (.reg [.mk 74 (.bin .lss (.t 72) (.t 71)) none]) (.seq (.cond (.t 73) .skip (.exit 0)) (.seq (.block 1 (.seq (.reg [.mk 75 (.mv (.t 72)) none,.mk 76 (.ixs 1 (.t 70) (.t 72)) none,.mk 77 (.ld1 (.t 75)) none,.mk 6 (.mv (.t 74)) none,.mk 7 (.mv (.t 76)) none]) (.seq (.reg [.mk 79 (.mv (.t 4)) none,.mk 80 (.nilck (.t 78)) none,.mk 81 (.fa 1 (.t 79)) none,.mk 82 (.ld1 (.t 80)) none,.mk 83 (.mv (.t 6)) none,.mk 84 (.scall 203 [(.t 81),(.t 82)]) none,.mk 78 (.mv (.t 83)) none,.mk 85 (.ext (.t 77) 0) none,.mk 86 (.ext (.t 77) 1) none,.mk 8 (.mv (.t 84)) none,.mk 9 (.mv (.t 85)) none]) (.seq (.seq (.reg [.mk 87 (.mv (.t 8)) none,.mk 88 (.un .not (.t 86)) none]) (.cond (.t 87) (.reg [.mk 89 (.mv (.t 4)) none,.mk 90 (.mv (.t 4)) none,.mk 91 (.mv (.t 4)) none,.mk 92 (.nilck (.t 90)) none,.mk 93 (.fa 1 (.t 91)) none,.mk 94 (.ld1 (.t 92)) none,.mk 95 (.mv (.t 7)) none,.mk 96 (.mv (.t 6)) none,.mk 97 (.bsl 3 1 1 [(.int .i64 0)] [(0,1,(.t 95))]) none,.mk 99 (.mv (.t 4)) none,.mk 100 (.nilck (.t 98)) none,.mk 101 (.fa 2 (.t 99)) none,.mk 102 (.ld1 (.t 100)) none,.mk 103 (.mv (.t 7)) none,.mk 104 (.bsl 54 1 1 [.nils] [(0,1,(.c .nils))]) none,.mk 98 (.scall 204 [(.t 93),(.t 94),(.t 96)]) none,.chk 101 (.ld1 (.t 100)) none,.mk 105 (.scall 205 [(.t 101),(.t 102),(.t 103)]) none,.mk 106 (.nilck (.t 88)) none,.mk 107 (.fa 1 (.t 105)) none,.mk 0 (.st 1 (.t 106) (.t 97)) none,.mk 108 (.nilck (.t 89)) none,.mk 109 (.fa 2 (.t 107)) none,.mk 0 (.st 1 (.t 108) (.t 104)) none]) .skip)) (.reg [.mk 110 (.mv (.t 4)) none,.mk 111 (.nilck (.t 109)) none,.mk 112 (.fa 2 (.t 110)) none,.mk 113 (.ld1 (.t 111)) none,.mk 114 (.mv (.t 7)) none,.mk 115 (.fa 2 (.t 3)) none,.mk 116 (.ld1 (.t 114)) none,.mk 117 (.mv (.t 5)) none,.mk 118 (.ixs 1 (.t 115) (.t 116)) none,.mk 119 (.ld1 (.t 117)) none,.mk 120 (.scall 206 [(.t 118)]) none,.chk 112 (.ld1 (.t 111)) none,.mk 121 (.ixs 1 (.t 112) (.t 113)) none,.mk 0 (.st 1 (.t 120) (.t 119)) none]))))) (.reg [.mk 122 (.bin .add (.t 72) (.c (.int .i64 1))) none,.mk 73 (.mv (.t 121)) none]))))))))))),[]⟩
theorem g131:GK 131 Tryz.f131 a131:=⟨by kernel_rfl,Tryz.func131,by kernel_rfl⟩
def q136:FA Tryz.f136:=⟨_,by conv=>lhs;cbv⟩
def a136:=q136.1
theorem g136:GK 136 Tryz.f136 a136:={ c:=q136.2,f:=Tryz.func136 }
def q139:FA Tryz.f139:=⟨_,by conv=>lhs;cbv⟩
def a139:=q139.1
theorem g139:GK 139 Tryz.f139 a139:={ c:=q139.2,f:=Tryz.func139 }
def q158:FA Tryz.f158:=⟨_,by conv=>lhs;cbv⟩
def a158:=q158.1
theorem g158:GK 158 Tryz.f158 a158:={ c:=q158.2,f:=Tryz.func158 }
def q162:FA Tryz.f162:=⟨_,by conv=>lhs;cbv⟩
def a162:=q162.1
theorem g162:GK 162 Tryz.f162 a162:={ c:=q162.2,f:=Tryz.func162 }
def q163:FA Tryz.f163:=⟨_,by conv=>lhs;cbv⟩
def a163:=q163.1
theorem g163:GK 163 Tryz.f163 a163:={ c:=q163.2,f:=Tryz.func163 }
def q166:FA Tryz.f166:=⟨_,by conv=>lhs;cbv⟩
def a166:=q166.1
theorem g166:GK 166 Tryz.f166 a166:={ c:=q166.2,f:=Tryz.func166 }
def q187:FA Tryz.f187:=⟨_,by conv=>lhs;cbv⟩
def a187:=q187.1
theorem g187:GK 187 Tryz.f187 a187:={ c:=q187.2,f:=Tryz.func187 }
def a194:AFn:=⟨(.seq (.reg [.mk 3 (.new 108 10 [(.int .u32 0),(.int .u32 0),(.int .i64 0),(.int .i64 0),(.int .i64 0),(.int .i64 0),(.int .i64 0),(.int .i64 0),(.int .i64 0),(.bool false)]) none,.mk 4 (.mv (.c (.int .i64 0))) none]) (.seq (.reg [.mk 5 (.mv (.c .nils)) none]) (.seq (.seq (.reg [.mk 13 (.build [(.int .u32 0),(.int .u32 0),(.int .i64 0),(.int .i64 0),(.int .i64 0),(.int .i64 0),(.int .i64 0),(.int .i64 0),(.int .i64 0),(.bool false)] []) none,.mk 14 (.scall 104 [(.t 12)]) none,.mk 15 (.len (.t 13)) none,.mk 16 (.mv (.c (.int .i64 0))) none]) (.block 0 (.loop (.seq (.reg [.mk 17 (.bin .lss (.t 15) (.t 14)) none]) (.seq (.cond (.t 16) .skip (.exit 0)) (.seq (.block 1 (.seq (.reg [.mk 18 (.ixs 3 (.t 13) (.t 15)) none,.mk 19 (.ldn 3 (.t 17)) none,.mk 7 (.new 203 3 [(.int .i64 0),(.int .i64 0),(.int .i64 0)]) none,.mk 0 (.st 3 (.t 6) (.t 18)) none]) (.seq (.reg [.mk 21 (.mv (.t 0)) none,.mk 22 (.fa 1 (.t 6)) none,.mk 23 (.ld1 (.t 21)) none,.mk 24 (.fa 2 (.t 6)) none,.mk 25 (.ld1 (.t 23)) none,.mk 26 (.scall 165 [(.t 20),(.t 22),(.t 24)]) none,.mk 20 (.mv (.t 25)) none,.mk 27 (.ext (.t 19) 0) none,.mk 28 (.ext (.t 19) 1) none,.mk 8 (.mv (.t 26)) none,.mk 9 (.mv (.t 27)) none]) (.seq (.seq (.reg [.mk 29 (.mv (.t 8)) none,.mk 30 (.bin .neq (.t 28) (.c (.int .i64 0))) none]) (.cond (.t 29) (.seq (.reg [.mk 31 (.build [(.int .u32 0),(.int .u32 0),(.int .i64 0),(.int .i64 0),(.int .i64 0),(.int .i64 0),(.int .i64 0),(.int .i64 0),(.int .i64 0),(.bool false)] []) none,.mk 32 (.mv (.t 8)) none,.mk 0 (.st 10 (.t 2) (.t 30)) none,.mk 4 (.mv (.t 31)) none]) .ret) .skip)) (.reg [.mk 33 (.mv (.t 4)) none,.mk 34 (.mv (.t 7)) none,.mk 35 (.bsl 3 1 1 [(.int .i64 0)] [(0,1,(.t 33))]) none,.mk 36 (.app 3 1 (.t 32) (.t 34)) none,.mk 5 (.mv (.t 35)) none]))))) (.reg [.mk 37 (.bin .add (.t 15) (.c (.int .i64 1))) none,.mk 16 (.mv (.t 36)) none]))))))) (.seq (.reg [.mk 38 (.mv (.t 4)) none,.mk 39 (.ixs 1 (.t 37) (.c (.int .i64 1))) none,.mk 40 (.ld1 (.t 38)) none,.mk 41 (.cvi .u32 (.t 39)) none,.mk 42 (.mv (.t 4)) none,.mk 43 (.ixs 1 (.t 41) (.c (.int .i64 2))) none,.mk 44 (.ld1 (.t 42)) none,.mk 45 (.cvi .u32 (.t 43)) none,.mk 46 (.mv (.t 4)) none,.mk 47 (.ixs 1 (.t 45) (.c (.int .i64 3))) none,.mk 48 (.ld1 (.t 46)) none,.mk 49 (.mv (.t 4)) none,.mk 50 (.ixs 1 (.t 48) (.c (.int .i64 4))) none,.mk 51 (.ld1 (.t 49)) none,.mk 52 (.mv (.t 4)) none,.mk 53 (.ixs 1 (.t 51) (.c (.int .i64 5))) none,.mk 54 (.ld1 (.t 52)) none,.mk 55 (.mv (.t 4)) none,.mk 56 (.ixs 1 (.t 54) (.c (.int .i64 6))) none,.mk 57 (.ld1 (.t 55)) none,.mk 58 (.mv (.t 4)) none,.mk 59 (.ixs 1 (.t 57) (.c (.int .i64 7))) none,.mk 60 (.ld1 (.t 58)) none,.mk 61 (.mv (.t 4)) none,.mk 62 (.ixs 1 (.t 60) (.c (.int .i64 8))) none,.mk 63 (.ld1 (.t 61)) none,.mk 64 (.mv (.t 4)) none,.mk 65 (.ixs 1 (.t 63) (.c (.int .i64 9))) none,.mk 66 (.ld1 (.t 64)) none,.mk 67 (.mv (.t 4)) none,.mk 68 (.ixs 1 (.t 66) (.c (.int .i64 10))) none,.mk 69 (.ld1 (.t 67)) none,.mk 70 (.bin .eql (.t 68) (.c (.int .i64 1))) none,.mk 71 (.build [(.int .u32 0),(.int .u32 0),(.int .i64 0),(.int .i64 0),(.int .i64 0),(.int .i64 0),(.int .i64 0),(.int .i64 0),(.int .i64 0),(.bool false)] [(0,1,(.t 40)),(1,1,(.t 44)),(2,1,(.t 47)),(3,1,(.t 50)),(4,1,(.t 53)),(5,1,(.t 56)),(6,1,(.t 59)),(7,1,(.t 62)),(8,1,(.t 65)),(9,1,(.t 69))]) none,.mk 10 (.new 108 10 [(.int .u32 0),(.int .u32 0),(.int .i64 0),(.int .i64 0),(.int .i64 0),(.int .i64 0),(.int .i64 0),(.int .i64 0),(.int .i64 0),(.bool false)]) none,.mk 0 (.st 10 (.t 9) (.t 70)) none]) (.seq (.seq (.reg [.mk 72 (.fa 7 (.t 9)) none,.mk 73 (.ld1 (.t 71)) none,.mk 74 (.bin .eql (.t 72) (.c (.int .i64 255))) none]) (.cond (.t 73) (.reg [.mk 75 (.fa 7 (.t 9)) none,.mk 0 (.st 1 (.t 74) (.c (.int .i64 (-1)))) none]) .skip)) (.seq (.seq (.reg [.mk 77 (.ldn 10 (.t 9)) none,.mk 78 (.scall 43 [(.t 76)]) none,.mk 76 (.mv (.t 77)) none,.mk 79 (.ext (.t 75) 0) none,.mk 80 (.ext (.t 75) 1) none,.mk 11 (.mv (.t 78)) none,.mk 12 (.mv (.t 79)) none]) (.seq (.reg [.mk 81 (.mv (.t 11)) none,.mk 82 (.bin .neq (.t 80) (.c (.int .i64 0))) none,.mk 83 (.mv (.t 81)) none,.mk 84 (.mv (.t 10)) (some (82,false)),.mk 85 (.mv (.t 0)) (some (82,false)),.mk 86 (.scall 256 [(.t 83),(.t 84)]) (some (82,false)),.mk 87 (.un .not (.t 85)) (some (82,false)),.mk 88 (.pick (.t 82) (.c (.bool true)) (.t 86)) none]) (.cond (.t 87) (.seq (.reg [.mk 89 (.build [(.int .u32 0),(.int .u32 0),(.int .i64 0),(.int .i64 0),(.int .i64 0),(.int .i64 0),(.int .i64 0),(.int .i64 0),(.int .i64 0),(.bool false)] []) none,.mk 0 (.st 10 (.t 2) (.t 88)) none,.mk 4 (.mv (.c (.int .i64 90))) none]) .ret) .skip))) (.seq (.reg [.mk 90 (.ldn 10 (.t 9)) none,.mk 0 (.st 10 (.t 2) (.t 89)) none,.mk 4 (.mv (.c (.int .i64 0))) none]) .ret))))))),[.cells 2 10,.tmp 3]⟩
theorem g194:GK 194 Tryz.f194 a194:=⟨by kernel_rfl,Tryz.func194,by kernel_rfl⟩
def q201:FA Tryz.f201:=⟨_,by conv=>lhs;cbv⟩
def a201:=q201.1
theorem g201:GK 201 Tryz.f201 a201:={ c:=q201.2,f:=Tryz.func201 }
def q203:FA Tryz.f203:=⟨_,by conv=>lhs;cbv⟩
def a203:=q203.1
theorem g203:GK 203 Tryz.f203 a203:={ c:=q203.2,f:=Tryz.func203 }
def q204:FA Tryz.f204:=⟨_,by conv=>lhs;cbv⟩
def a204:=q204.1
theorem g204:GK 204 Tryz.f204 a204:={ c:=q204.2,f:=Tryz.func204 }
def q211:FA Tryz.f211:=⟨_,by conv=>lhs;cbv⟩
def a211:=q211.1
theorem g211:GK 211 Tryz.f211 a211:={ c:=q211.2,f:=Tryz.func211 }
def q212:FA Tryz.f212:=⟨_,by conv=>lhs;cbv⟩
def a212:=q212.1
theorem g212:GK 212 Tryz.f212 a212:={ c:=q212.2,f:=Tryz.func212 }
def q240:FA Tryz.f240:=⟨_,by conv=>lhs;cbv⟩
def a240:=q240.1
theorem g240:GK 240 Tryz.f240 a240:={ c:=q240.2,f:=Tryz.func240 }
def q243:FA Tryz.f243:=⟨_,by conv=>lhs;cbv⟩
def a243:=q243.1
theorem g243:GK 243 Tryz.f243 a243:={ c:=q243.2,f:=Tryz.func243 }
def q252:FA Tryz.f252:=⟨_,by conv=>lhs;cbv⟩
def a252:=q252.1
theorem g252:GK 252 Tryz.f252 a252:={ c:=q252.2,f:=Tryz.func252 }
def q254:FA Tryz.f254:=⟨_,by conv=>lhs;cbv⟩
def a254:=q254.1
theorem g254:GK 254 Tryz.f254 a254:={ c:=q254.2,f:=Tryz.func254 }
def q261:FA Tryz.f261:=⟨_,by conv=>lhs;cbv⟩
def a261:=q261.1
theorem g261:GK 261 Tryz.f261 a261:={ c:=q261.2,f:=Tryz.func261 }
def q271:FA Tryz.f271:=⟨_,by conv=>lhs;cbv⟩
def a271:=q271.1
theorem g271:GK 271 Tryz.f271 a271:={ c:=q271.2,f:=Tryz.func271 }
def q272:FA Tryz.f272:=⟨_,by conv=>lhs;cbv⟩
def a272:=q272.1
theorem g272:GK 272 Tryz.f272 a272:={ c:=q272.2,f:=Tryz.func272 }
def q297:FA Tryz.f297:=⟨_,by conv=>lhs;cbv⟩
def a297:=q297.1
theorem g297:GK 297 Tryz.f297 a297:={ c:=q297.2,f:=Tryz.func297 }
def q301:FA Tryz.f301:=⟨_,by conv=>lhs;cbv⟩
def a301:=q301.1
theorem g301:GK 301 Tryz.f301 a301:={ c:=q301.2,f:=Tryz.func301 }
def q302:FA Tryz.f302:=⟨_,by conv=>lhs;cbv⟩
def a302:=q302.1
theorem g302:GK 302 Tryz.f302 a302:={ c:=q302.2,f:=Tryz.func302 }
def q318:FA Tryz.f318:=⟨_,by conv=>lhs;cbv⟩
def a318:=q318.1
theorem g318:GK 318 Tryz.f318 a318:={ c:=q318.2,f:=Tryz.func318 }
def q323:FA Tryz.f323:=⟨_,by conv=>lhs;cbv⟩
def a323:=q323.1
theorem g323:GK 323 Tryz.f323 a323:={ c:=q323.2,f:=Tryz.func323 }
end X
end
end Go.AM
