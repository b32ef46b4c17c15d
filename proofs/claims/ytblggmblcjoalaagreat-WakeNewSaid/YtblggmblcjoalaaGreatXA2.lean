/- Contracts of functions over the abstract machine. No conditions. -/
import Derived.Test.YtblggmblcjoalaaGreatXN
set_option maxRecDepth 100000
namespace Go.AM
noncomputable section
open Go.Proofs
namespace X
def q7:FA Tryz.f7:=⟨_,by conv=>lhs;cbv⟩
def a7:=q7.1
theorem g7:GK 7 Tryz.f7 a7:={ c:=q7.2,f:=Tryz.func7 }
def q20:FA Tryz.f20:=⟨_,by conv=>lhs;cbv⟩
def a20:=q20.1
theorem g20:GK 20 Tryz.f20 a20:={ c:=q20.2,f:=Tryz.func20 }
def q49:FA Tryz.f49:=⟨_,by conv=>lhs;cbv⟩
def a49:=q49.1
theorem g49:GK 49 Tryz.f49 a49:={ c:=q49.2,f:=Tryz.func49 }
def q54:FA Tryz.f54:=⟨_,by conv=>lhs;cbv⟩
def a54:=q54.1
theorem g54:GK 54 Tryz.f54 a54:={ c:=q54.2,f:=Tryz.func54 }
def q76:FA Tryz.f76:=⟨_,by conv=>lhs;cbv⟩
def a76:=q76.1
theorem g76:GK 76 Tryz.f76 a76:={ c:=q76.2,f:=Tryz.func76 }
def q90:FA Tryz.f90:=⟨_,by conv=>lhs;cbv⟩
def a90:=q90.1
theorem g90:GK 90 Tryz.f90 a90:={ c:=q90.2,f:=Tryz.func90 }
def a104:AFn:=⟨(.seq (.reg [.mk 2 (.box 108 10 (.t 0)) none,.mk 3 (.mv (.c .nils)) none]) (.seq (.reg [.mk 4 (.new 3 1 [(.int .i64 0)]) none,.mk 0 (.st 1 (.t 3) (.c (.int .i64 0))) none]) (.seq (.reg [.mk 8 (.mkfn 185 [] [(.t 3)]) none,.mk 5 (.mv (.t 7)) none]) (.seq (.reg [.mk 9 (.fa 7 (.t 1)) none,.mk 10 (.ld1 (.t 8)) none,.mk 6 (.mv (.t 9)) none,.mk 7 (.mv (.c (.int .i64 0))) none]) (.seq (.seq (.reg [.mk 11 (.mv (.t 5)) none,.mk 12 (.bin .eql (.t 10) (.c (.int .i64 (-1)))) none]) (.cond (.t 11) (.reg [.mk 6 (.mv (.c (.int .i64 255))) none]) .skip)) (.seq (.seq (.reg [.mk 13 (.fa 9 (.t 1)) none,.mk 14 (.ld1 (.t 12)) none]) (.cond (.t 13) (.reg [.mk 7 (.mv (.c (.int .i64 1))) none]) .skip)) (.seq (.reg [.mk 15 (.mv (.t 4)) none,.mk 17 (.mv (.t 4)) none,.mk 18 (.fa 0 (.t 1)) none,.mk 19 (.ld1 (.t 17)) none,.mk 20 (.cvi .i64 (.t 18)) none,.mk 22 (.mv (.t 4)) none,.mk 23 (.fa 1 (.t 1)) none,.mk 24 (.ld1 (.t 22)) none,.mk 25 (.cvi .i64 (.t 23)) none,.mk 27 (.mv (.t 4)) none,.mk 28 (.fa 2 (.t 1)) none,.mk 29 (.ld1 (.t 27)) none,.mk 31 (.mv (.t 4)) none,.mk 32 (.fa 3 (.t 1)) none,.mk 33 (.ld1 (.t 31)) none,.mk 35 (.mv (.t 4)) none,.mk 36 (.fa 4 (.t 1)) none,.mk 37 (.ld1 (.t 35)) none,.mk 39 (.mv (.t 4)) none,.mk 40 (.fa 5 (.t 1)) none,.mk 41 (.ld1 (.t 39)) none,.mk 43 (.mv (.t 4)) none,.mk 44 (.fa 6 (.t 1)) none,.mk 45 (.ld1 (.t 43)) none,.mk 47 (.mv (.t 4)) none,.mk 48 (.mv (.t 5)) none,.mk 50 (.mv (.t 4)) none,.mk 51 (.fa 8 (.t 1)) none,.mk 52 (.ld1 (.t 50)) none,.mk 54 (.mv (.t 4)) none,.mk 55 (.mv (.t 6)) none,.mk 16 (.call (.t 14) [(.c (.int .i64 76)),(.c (.int .i64 1))]) none,.chk 18 (.ld1 (.t 17)) none,.chk 23 (.ld1 (.t 22)) none,.chk 28 (.ld1 (.t 27)) none,.chk 32 (.ld1 (.t 31)) none,.chk 36 (.ld1 (.t 35)) none,.chk 40 (.ld1 (.t 39)) none,.chk 44 (.ld1 (.t 43)) none,.chk 51 (.ld1 (.t 50)) none,.mk 21 (.call (.t 16) [(.t 19),(.c (.int .i64 4))]) none,.chk 23 (.ld1 (.t 22)) none,.chk 28 (.ld1 (.t 27)) none,.chk 32 (.ld1 (.t 31)) none,.chk 36 (.ld1 (.t 35)) none,.chk 40 (.ld1 (.t 39)) none,.chk 44 (.ld1 (.t 43)) none,.chk 51 (.ld1 (.t 50)) none,.mk 26 (.call (.t 21) [(.t 24),(.c (.int .i64 4))]) none,.chk 28 (.ld1 (.t 27)) none,.chk 32 (.ld1 (.t 31)) none,.chk 36 (.ld1 (.t 35)) none,.chk 40 (.ld1 (.t 39)) none,.chk 44 (.ld1 (.t 43)) none,.chk 51 (.ld1 (.t 50)) none,.mk 30 (.call (.t 26) [(.t 28),(.c (.int .i64 1))]) none,.chk 32 (.ld1 (.t 31)) none,.chk 36 (.ld1 (.t 35)) none,.chk 40 (.ld1 (.t 39)) none,.chk 44 (.ld1 (.t 43)) none,.chk 51 (.ld1 (.t 50)) none,.mk 34 (.call (.t 30) [(.t 32),(.c (.int .i64 1))]) none,.chk 36 (.ld1 (.t 35)) none,.chk 40 (.ld1 (.t 39)) none,.chk 44 (.ld1 (.t 43)) none,.chk 51 (.ld1 (.t 50)) none,.mk 38 (.call (.t 34) [(.t 36),(.c (.int .i64 1))]) none,.chk 40 (.ld1 (.t 39)) none,.chk 44 (.ld1 (.t 43)) none,.chk 51 (.ld1 (.t 50)) none,.mk 42 (.call (.t 38) [(.t 40),(.c (.int .i64 1))]) none,.chk 44 (.ld1 (.t 43)) none,.chk 51 (.ld1 (.t 50)) none,.mk 46 (.call (.t 42) [(.t 44),(.c (.int .i64 1))]) none,.chk 51 (.ld1 (.t 50)) none,.mk 49 (.call (.t 46) [(.t 47),(.c (.int .i64 1))]) none,.chk 51 (.ld1 (.t 50)) none,.mk 53 (.call (.t 49) [(.t 51),(.c (.int .i64 1))]) none,.mk 56 (.call (.t 53) [(.t 54),(.c (.int .i64 1))]) none,.mk 57 (.bsl 203 3 11 [(.int .i64 0),(.int .i64 0),(.int .i64 0),(.int .i64 0),(.int .i64 0),(.int .i64 0),(.int .i64 0),(.int .i64 0),(.int .i64 0),(.int .i64 0),(.int .i64 0),(.int .i64 0),(.int .i64 0),(.int .i64 0),(.int .i64 0),(.int .i64 0),(.int .i64 0),(.int .i64 0),(.int .i64 0),(.int .i64 0),(.int .i64 0),(.int .i64 0),(.int .i64 0),(.int .i64 0),(.int .i64 0),(.int .i64 0),(.int .i64 0),(.int .i64 0),(.int .i64 0),(.int .i64 0),(.int .i64 0),(.int .i64 0),(.int .i64 0)] [(0,3,(.t 15)),(3,3,(.t 20)),(6,3,(.t 25)),(9,3,(.t 29)),(12,3,(.t 33)),(15,3,(.t 37)),(18,3,(.t 41)),(21,3,(.t 45)),(24,3,(.t 48)),(27,3,(.t 52)),(30,3,(.t 55))]) none,.mk 3 (.mv (.t 56)) none]) .ret))))))),[.tmp 2]⟩
theorem g104:GK 104 Tryz.f104 a104:=⟨by kernel_rfl,Tryz.func104,by kernel_rfl⟩
def q105:FA Tryz.f105:=⟨_,by conv=>lhs;cbv⟩
def a105:=q105.1
theorem g105:GK 105 Tryz.f105 a105:={ c:=q105.2,f:=Tryz.func105 }
def q128:FA Tryz.f128:=⟨_,by conv=>lhs;cbv⟩
def a128:=q128.1
theorem g128:GK 128 Tryz.f128 a128:={ c:=q128.2,f:=Tryz.func128 }
def q132:FA Tryz.f132:=⟨_,by conv=>lhs;cbv⟩
def a132:=q132.1
theorem g132:GK 132 Tryz.f132 a132:={ c:=q132.2,f:=Tryz.func132 }
def a134:AFn:=⟨(.seq (.reg [.mk 6 (.box 76 4 (.t 1)) none,.mk 9 (.new 42 5 [(.int .u32 0),(.int .u32 0),(.int .i64 0),(.int .i64 0),.nils]) none,.mk 10 (.mv (.c (.bool false))) none]) (.seq (.reg [.mk 11 (.mv (.c (.int .i64 0))) none,.mk 12 (.mv (.c (.int .i64 0))) none]) (.seq (.seq (.reg [.mk 21 (.mv (.t 2)) none,.mk 22 (.len (.t 20)) none,.mk 23 (.mv (.c (.int .i64 0))) none]) (.block 0 (.loop (.seq (.reg [.mk 24 (.bin .lss (.t 22) (.t 21)) none]) (.seq (.cond (.t 23) .skip (.exit 0)) (.seq (.block 1 (.seq (.reg [.mk 25 (.ixs 6 (.t 20) (.t 22)) none,.mk 26 (.ldn 6 (.t 24)) none,.mk 14 (.new 169 6 [(.int .u32 0),(.int .u32 0),(.int .i64 0),.nils,.nils,.nils]) none,.mk 0 (.st 6 (.t 13) (.t 25)) none]) (.reg [.mk 27 (.mv (.t 10)) none,.mk 28 (.fa 2 (.t 13)) none,.mk 29 (.ldn 4 (.t 27)) none,.mk 30 (.scall 210 [(.t 28)]) none,.mk 31 (.bin .add (.t 26) (.t 29)) none,.mk 11 (.mv (.t 30)) none]))) (.reg [.mk 32 (.bin .add (.t 22) (.c (.int .i64 1))) none,.mk 23 (.mv (.t 31)) none]))))))) (.seq (.seq (.reg [.mk 33 (.mv (.t 3)) none,.mk 34 (.len (.t 32)) none,.mk 35 (.mv (.c (.int .i64 0))) none]) (.block 2 (.loop (.seq (.reg [.mk 36 (.bin .lss (.t 34) (.t 33)) none]) (.seq (.cond (.t 35) .skip (.exit 2)) (.seq (.block 3 (.seq (.reg [.mk 37 (.ixs 4 (.t 32) (.t 34)) none,.mk 38 (.ldn 4 (.t 36)) none,.mk 16 (.new 167 4 [(.int .i64 0),.nils,.nils,.nils]) none,.mk 0 (.st 4 (.t 15) (.t 37)) none]) (.reg [.mk 39 (.mv (.t 11)) none,.mk 40 (.ldn 4 (.t 15)) none,.mk 41 (.scall 210 [(.t 39)]) none,.mk 42 (.bin .add (.t 38) (.t 40)) none,.mk 12 (.mv (.t 41)) none]))) (.reg [.mk 43 (.bin .add (.t 34) (.c (.int .i64 1))) none,.mk 35 (.mv (.t 42)) none]))))))) (.seq (.reg [.mk 45 (.mv (.t 0)) none,.mk 46 (.nilck (.t 44)) none,.mk 47 (.fa 0 (.t 45)) none,.mk 48 (.fa 0 (.t 46)) none,.mk 49 (.fa 4 (.t 47)) none,.mk 50 (.ld1 (.t 48)) none,.mk 51 (.fa 3 (.t 5)) none,.mk 52 (.ld1 (.t 50)) none,.mk 53 (.mv (.t 10)) none,.mk 54 (.scall 159 [(.t 49),(.t 51),(.t 52)]) none,.mk 44 (.mv (.t 53)) none,.mk 55 (.ext (.t 43) 0) none,.mk 56 (.ext (.t 43) 1) none,.mk 17 (.mv (.t 54)) none,.mk 18 (.mv (.t 55)) none]) (.seq (.reg [.mk 58 (.fa 1 (.t 5)) none,.mk 59 (.ld1 (.t 57)) none,.mk 60 (.bin .add (.t 58) (.c (.int .u32 1))) none,.mk 61 (.fa 2 (.t 5)) none,.mk 62 (.ld1 (.t 60)) none,.mk 63 (.mv (.t 2)) none,.mk 64 (.len (.t 62)) none,.mk 65 (.cvi .u32 (.t 63)) none,.mk 66 (.bin .add (.t 61) (.t 64)) none,.mk 67 (.mv (.t 16)) none,.mk 68 (.scall 54 [(.t 59),(.t 65),(.t 66)]) none,.mk 57 (.mv (.t 67)) none,.mk 69 (.ext (.t 56) 0) none,.mk 70 (.ext (.t 56) 1) none,.mk 19 (.new 42 5 [(.int .u32 0),(.int .u32 0),(.int .i64 0),(.int .i64 0),.nils]) none,.mk 0 (.st 5 (.t 18) (.t 68)) none,.mk 20 (.mv (.t 69)) none]) (.seq (.reg [.mk 71 (.ldn 5 (.t 18)) none,.mk 72 (.mv (.t 19)) none,.mk 73 (.bin .eql (.t 71) (.c (.int .i64 0))) none,.mk 74 (.mv (.t 72)) none,.mk 75 (.mv (.t 10)) (some (73,true)),.mk 76 (.mv (.t 11)) (some (73,true)),.mk 77 (.bin .add (.t 74) (.t 75)) (some (73,true)),.mk 78 (.mv (.t 0)) (some (73,true)),.mk 79 (.nilck (.t 77)) (some (73,true)),.mk 80 (.fa 0 (.t 78)) (some (73,true)),.mk 81 (.fa 0 (.t 79)) (some (73,true)),.mk 82 (.fa 4 (.t 80)) (some (73,true)),.mk 83 (.ld1 (.t 81)) (some (73,true)),.mk 84 (.bin .leq (.t 76) (.t 82)) (some (73,true)),.mk 85 (.pick (.t 73) (.t 83) (.c (.bool false))) none,.mk 86 (.mv (.t 84)) none,.mk 87 (.mv (.t 3)) (some (85,true)),.mk 88 (.len (.t 86)) (some (85,true)),.mk 89 (.mv (.t 0)) (some (85,true)),.mk 90 (.nilck (.t 88)) (some (85,true)),.mk 91 (.fa 0 (.t 89)) (some (85,true)),.mk 92 (.fa 0 (.t 90)) (some (85,true)),.mk 93 (.fa 5 (.t 91)) (some (85,true)),.mk 94 (.ld1 (.t 92)) (some (85,true)),.mk 95 (.bin .leq (.t 87) (.t 93)) (some (85,true)),.mk 96 (.pick (.t 85) (.t 94) (.c (.bool false))) none,.mk 0 (.st 5 (.t 8) (.t 70)) none,.chk 93 (.ld1 (.t 92)) (some (85,true)),.mk 10 (.mv (.t 95)) none]) .ret))))))),[.cells 8 5,.tmp 9]⟩
theorem g134:GK 134 Tryz.f134 a134:=⟨by kernel_rfl,Tryz.func134,by kernel_rfl⟩
def q138:FA Tryz.f138:=⟨_,by conv=>lhs;cbv⟩
def a138:=q138.1
theorem g138:GK 138 Tryz.f138 a138:={ c:=q138.2,f:=Tryz.func138 }
def q161:FA Tryz.f161:=⟨_,by conv=>lhs;cbv⟩
def a161:=q161.1
theorem g161:GK 161 Tryz.f161 a161:={ c:=q161.2,f:=Tryz.func161 }
def q164:FA Tryz.f164:=⟨_,by conv=>lhs;cbv⟩
def a164:=q164.1
theorem g164:GK 164 Tryz.f164 a164:={ c:=q164.2,f:=Tryz.func164 }
def q171:FA Tryz.f171:=⟨_,by conv=>lhs;cbv⟩
def a171:=q171.1
theorem g171:GK 171 Tryz.f171 a171:={ c:=q171.2,f:=Tryz.func171 }
def q183:FA Tryz.f183:=⟨_,by conv=>lhs;cbv⟩
def a183:=q183.1
theorem g183:GK 183 Tryz.f183 a183:={ c:=q183.2,f:=Tryz.func183 }
def q188:FA Tryz.f188:=⟨_,by conv=>lhs;cbv⟩
def a188:=q188.1
theorem g188:GK 188 Tryz.f188 a188:={ c:=q188.2,f:=Tryz.func188 }
def q202:FA Tryz.f202:=⟨_,by conv=>lhs;cbv⟩
def a202:=q202.1
theorem g202:GK 202 Tryz.f202 a202:={ c:=q202.2,f:=Tryz.func202 }
def q205:FA Tryz.f205:=⟨_,by conv=>lhs;cbv⟩
def a205:=q205.1
theorem g205:GK 205 Tryz.f205 a205:={ c:=q205.2,f:=Tryz.func205 }
def q210:FA Tryz.f210:=⟨_,by conv=>lhs;cbv⟩
def a210:=q210.1
theorem g210:GK 210 Tryz.f210 a210:={ c:=q210.2,f:=Tryz.func210 }
def q219:FA Tryz.f219:=⟨_,by conv=>lhs;cbv⟩
def a219:=q219.1
theorem g219:GK 219 Tryz.f219 a219:={ c:=q219.2,f:=Tryz.func219 }
def q241:FA Tryz.f241:=⟨_,by conv=>lhs;cbv⟩
def a241:=q241.1
theorem g241:GK 241 Tryz.f241 a241:={ c:=q241.2,f:=Tryz.func241 }
def q244:FA Tryz.f244:=⟨_,by conv=>lhs;cbv⟩
def a244:=q244.1
theorem g244:GK 244 Tryz.f244 a244:={ c:=q244.2,f:=Tryz.func244 }
def q247:FA Tryz.f247:=⟨_,by conv=>lhs;cbv⟩
def a247:=q247.1
theorem g247:GK 247 Tryz.f247 a247:={ c:=q247.2,f:=Tryz.func247 }
def q250:FA Tryz.f250:=⟨_,by conv=>lhs;cbv⟩
def a250:=q250.1
theorem g250:GK 250 Tryz.f250 a250:={ c:=q250.2,f:=Tryz.func250 }
def q256:FA Tryz.f256:=⟨_,by conv=>lhs;cbv⟩
def a256:=q256.1
theorem g256:GK 256 Tryz.f256 a256:={ c:=q256.2,f:=Tryz.func256 }
def q270:FA Tryz.f270:=⟨_,by conv=>lhs;cbv⟩
def a270:=q270.1
theorem g270:GK 270 Tryz.f270 a270:={ c:=q270.2,f:=Tryz.func270 }
def q288:FA Tryz.f288:=⟨_,by conv=>lhs;cbv⟩
def a288:=q288.1
theorem g288:GK 288 Tryz.f288 a288:={ c:=q288.2,f:=Tryz.func288 }
def q290:FA Tryz.f290:=⟨_,by conv=>lhs;cbv⟩
def a290:=q290.1
theorem g290:GK 290 Tryz.f290 a290:={ c:=q290.2,f:=Tryz.func290 }
def q293:FA Tryz.f293:=⟨_,by conv=>lhs;cbv⟩
def a293:=q293.1
theorem g293:GK 293 Tryz.f293 a293:={ c:=q293.2,f:=Tryz.func293 }
def q304:FA Tryz.f304:=⟨_,by conv=>lhs;cbv⟩
def a304:=q304.1
theorem g304:GK 304 Tryz.f304 a304:={ c:=q304.2,f:=Tryz.func304 }
def q305:FA Tryz.f305:=⟨_,by conv=>lhs;cbv⟩
def a305:=q305.1
theorem g305:GK 305 Tryz.f305 a305:={ c:=q305.2,f:=Tryz.func305 }
def q307:FA Tryz.f307:=⟨_,by conv=>lhs;cbv⟩
def a307:=q307.1
theorem g307:GK 307 Tryz.f307 a307:={ c:=q307.2,f:=Tryz.func307 }
def q321:FA Tryz.f321:=⟨_,by conv=>lhs;cbv⟩
def a321:=q321.1
theorem g321:GK 321 Tryz.f321 a321:={ c:=q321.2,f:=Tryz.func321 }
def q330:FA Tryz.f330:=⟨_,by conv=>lhs;cbv⟩
def a330:=q330.1
theorem g330:GK 330 Tryz.f330 a330:={ c:=q330.2,f:=Tryz.func330 }
end X
end
end Go.AM
