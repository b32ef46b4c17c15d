/- Contracts of functions over the abstract machine. No conditions. -/
import Derived.Test.YtblggmblcjoalaaGreatXN
set_option maxRecDepth 100000
namespace Go.AM
noncomputable section
open Go.Proofs
namespace X
def q14:FA Tryz.f14:=⟨_,by conv=>lhs;cbv⟩
def a14:=q14.1
theorem g14:GK 14 Tryz.f14 a14:={ c:=q14.2,f:=Tryz.func14 }
def q32:FA Tryz.f32:=⟨_,by conv=>lhs;cbv⟩
def a32:=q32.1
theorem g32:GK 32 Tryz.f32 a32:={ c:=q32.2,f:=Tryz.func32 }
def q33:FA Tryz.f33:=⟨_,by conv=>lhs;cbv⟩
def a33:=q33.1
theorem g33:GK 33 Tryz.f33 a33:={ c:=q33.2,f:=Tryz.func33 }
def q42:FA Tryz.f42:=⟨_,by conv=>lhs;cbv⟩
def a42:=q42.1
theorem g42:GK 42 Tryz.f42 a42:={ c:=q42.2,f:=Tryz.func42 }
def q43:FA Tryz.f43:=⟨_,by conv=>lhs;cbv⟩
def a43:=q43.1
theorem g43:GK 43 Tryz.f43 a43:={ c:=q43.2,f:=Tryz.func43 }
def q44:FA Tryz.f44:=⟨_,by conv=>lhs;cbv⟩
def a44:=q44.1
theorem g44:GK 44 Tryz.f44 a44:={ c:=q44.2,f:=Tryz.func44 }
def q64:FA Tryz.f64:=⟨_,by conv=>lhs;cbv⟩
def a64:=q64.1
theorem g64:GK 64 Tryz.f64 a64:={ c:=q64.2,f:=Tryz.func64 }
def q72:FA Tryz.f72:=⟨_,by conv=>lhs;cbv⟩
def a72:=q72.1
theorem g72:GK 72 Tryz.f72 a72:={ c:=q72.2,f:=Tryz.func72 }
def q79:FA Tryz.f79:=⟨_,by conv=>lhs;cbv⟩
def a79:=q79.1
theorem g79:GK 79 Tryz.f79 a79:={ c:=q79.2,f:=Tryz.func79 }
def q87:FA Tryz.f87:=⟨_,by conv=>lhs;cbv⟩
def a87:=q87.1
theorem g87:GK 87 Tryz.f87 a87:={ c:=q87.2,f:=Tryz.func87 }
def q94:FA Tryz.f94:=⟨_,by conv=>lhs;cbv⟩
def a94:=q94.1
theorem g94:GK 94 Tryz.f94 a94:={ c:=q94.2,f:=Tryz.func94 }
def a95:AFn:=⟨(.seq (.reg [.mk 3 (.box 155 4 (.t 0)) none,.mk 5 (.mv (.c (.bool false))) none]) (.seq (.seq (.reg [.mk 6 (.fa 0 (.t 2)) none,.mk 7 (.ld1 (.t 5)) none,.mk 8 (.bin .lss (.t 6) (.c (.int .i64 0))) none,.mk 9 (.mv (.t 7)) none,.mk 10 (.fa 0 (.t 2)) (some (8,false)),.mk 11 (.ld1 (.t 9)) (some (8,false)),.mk 12 (.mv (.t 1)) (some (8,false)),.mk 13 (.len (.t 11)) (some (8,false)),.mk 14 (.bin .geq (.t 10) (.t 12)) (some (8,false)),.mk 15 (.pick (.t 8) (.c (.bool true)) (.t 13)) none,.mk 16 (.mv (.t 14)) none,.mk 17 (.fa 1 (.t 2)) (some (15,false)),.mk 18 (.ld1 (.t 16)) (some (15,false)),.mk 19 (.scall 76 [(.t 17)]) (some (15,false)),.mk 20 (.eqb 4 false (.t 18) (.c .nilf)) (some (15,false)),.mk 21 (.pick (.t 15) (.c (.bool true)) (.t 19)) none]) (.cond (.t 20) (.seq (.reg [.mk 5 (.mv (.c (.bool false))) none]) .ret) .skip)) (.seq (.seq (.reg [.mk 22 (.fa 1 (.t 2)) none,.mk 23 (.ld1 (.t 21)) none,.mk 24 (.bin .eql (.t 22) (.c (.int .u8 3))) none]) (.cond (.t 23) (.seq (.reg [.mk 25 (.fa 2 (.t 2)) none,.mk 26 (.ld1 (.t 24)) none,.mk 27 (.bin .eql (.t 25) (.c (.int .i64 0))) none,.mk 28 (.mv (.t 26)) none,.mk 29 (.fa 3 (.t 2)) (some (27,true)),.mk 30 (.ld1 (.t 28)) (some (27,true)),.mk 31 (.len (.t 29)) (some (27,true)),.mk 32 (.bin .eql (.t 30) (.c (.int .i64 0))) (some (27,true)),.mk 33 (.pick (.t 27) (.t 31) (.c (.bool false))) none,.mk 5 (.mv (.t 32)) none]) .ret) .skip)) (.seq (.reg [.mk 34 (.fa 2 (.t 2)) none,.mk 35 (.ld1 (.t 33)) none,.mk 36 (.bin .geq (.t 34) (.c (.int .i64 0))) none,.mk 37 (.mv (.t 35)) none,.mk 38 (.fa 2 (.t 2)) (some (36,true)),.mk 39 (.ld1 (.t 37)) (some (36,true)),.mk 40 (.mv (.t 1)) (some (36,true)),.mk 41 (.fa 0 (.t 2)) (some (36,true)),.mk 42 (.ld1 (.t 40)) (some (36,true)),.mk 43 (.ixs 3 (.t 39) (.t 41)) (some (36,true)),.mk 44 (.fa 0 (.t 42)) (some (36,true)),.mk 45 (.ld1 (.t 43)) (some (36,true)),.mk 46 (.len (.t 44)) (some (36,true)),.mk 47 (.bin .lss (.t 38) (.t 45)) (some (36,true)),.mk 48 (.pick (.t 36) (.t 46) (.c (.bool false))) none,.mk 49 (.mv (.t 47)) none,.mk 50 (.fa 3 (.t 2)) (some (48,true)),.mk 51 (.ld1 (.t 49)) (some (48,true)),.mk 52 (.len (.t 50)) (some (48,true)),.mk 53 (.bin .eql (.t 51) (.c (.int .i64 0))) (some (48,true)),.mk 54 (.mv (.t 52)) (some (48,true)),.mk 55 (.fa 3 (.t 2)) (some (53,false)),.mk 56 (.ld1 (.t 54)) (some (53,false)),.mk 57 (.len (.t 55)) (some (53,false)),.mk 58 (.bin .eql (.t 56) (.c (.int .i64 128))) (some (53,false)),.mk 59 (.pick (.t 53) (.c (.bool true)) (.t 57)) (some (48,true)),.mk 60 (.pick (.t 48) (.t 58) (.c (.bool false))) none,.mk 5 (.mv (.t 59)) none]) .ret)))),[.tmp 4]⟩
theorem g95:GK 95 Tryz.f95 a95:=⟨by kernel_rfl,Tryz.func95,by kernel_rfl⟩
def q101:FA Tryz.f101:=⟨_,by conv=>lhs;cbv⟩
def a101:=q101.1
theorem g101:GK 101 Tryz.f101 a101:={ c:=q101.2,f:=Tryz.func101 }
def q103:FA Tryz.f103:=⟨_,by conv=>lhs;cbv⟩
def a103:=q103.1
theorem g103:GK 103 Tryz.f103 a103:={ c:=q103.2,f:=Tryz.func103 }
def q108:FA Tryz.f108:=⟨_,by conv=>lhs;cbv⟩
def a108:=q108.1
theorem g108:GK 108 Tryz.f108 a108:={ c:=q108.2,f:=Tryz.func108 }
def q112:FA Tryz.f112:=⟨_,by conv=>lhs;cbv⟩
def a112:=q112.1
theorem g112:GK 112 Tryz.f112 a112:={ c:=q112.2,f:=Tryz.func112 }
def q121:FA Tryz.f121:=⟨_,by conv=>lhs;cbv⟩
def a121:=q121.1
theorem g121:GK 121 Tryz.f121 a121:={ c:=q121.2,f:=Tryz.func121 }
def q127:FA Tryz.f127:=⟨_,by conv=>lhs;cbv⟩
def a127:=q127.1
theorem g127:GK 127 Tryz.f127 a127:={ c:=q127.2,f:=Tryz.func127 }
def q137:FA Tryz.f137:=⟨_,by conv=>lhs;cbv⟩
def a137:=q137.1
theorem g137:GK 137 Tryz.f137 a137:={ c:=q137.2,f:=Tryz.func137 }
def q149:FA Tryz.f149:=⟨_,by conv=>lhs;cbv⟩
def a149:=q149.1
theorem g149:GK 149 Tryz.f149 a149:={ c:=q149.2,f:=Tryz.func149 }
def q150:FA Tryz.f150:=⟨_,by conv=>lhs;cbv⟩
def a150:=q150.1
theorem g150:GK 150 Tryz.f150 a150:={ c:=q150.2,f:=Tryz.func150 }
def q159:FA Tryz.f159:=⟨_,by conv=>lhs;cbv⟩
def a159:=q159.1
theorem g159:GK 159 Tryz.f159 a159:={ c:=q159.2,f:=Tryz.func159 }
def a160:AFn:=⟨(.seq (.reg [.mk 4 (.box 24 6 (.t 0)) none,.mk 5 (.box 74 3 (.t 1)) none,.mk 7 (.new 169 6 [(.int .u32 0),(.int .u32 0),(.int .i64 0),.nils,.nils,.nils]) none,.mk 8 (.new 3 1 [(.int .i64 0)]) none,.mk 9 (.new 28 1 [(.int .i64 0)]) none]) (.seq (.seq (.reg [.mk 15 (.ldn 6 (.t 3)) none,.mk 16 (.ldn 3 (.t 4)) none,.mk 17 (.mv (.t 2)) none,.mk 18 (.scall 238 [(.t 14),(.t 15),(.t 16)]) none,.mk 10 (.mv (.t 17)) none]) (.seq (.reg [.mk 19 (.mv (.t 9)) none,.mk 20 (.eqb 1 true (.t 18) (.c .nilp)) none]) (.cond (.t 19) (.seq (.reg [.mk 21 (.build [(.int .u32 0),(.int .u32 0),(.int .i64 0),.nils,.nils,.nils] []) none,.mk 22 (.mv (.t 9)) none,.mk 23 (.nilck (.t 21)) none,.mk 24 (.ld1 (.t 22)) none,.mk 0 (.st 6 (.t 6) (.t 20)) none,.chk 23 (.ld1 (.t 22)) none,.mk 0 (.st 1 (.t 7) (.c (.int .i64 0))) none,.chk 23 (.ld1 (.t 22)) none,.mk 0 (.st 1 (.t 8) (.t 23)) none]) .ret) .skip))) (.seq (.reg [.mk 11 (.new 174 5 [(.int .u32 0),(.int .u32 0),(.int .u32 0),(.int .i64 0),.nils]) none]) (.seq (.seq (.reg [.mk 25 (.ldn 6 (.t 3)) none,.mk 26 (.ldn 3 (.t 4)) none,.mk 27 (.mv (.t 2)) none,.mk 28 (.scall 239 [(.t 24),(.t 25),(.t 26)]) none]) (.block 0 (.rng (.t 27) [28,29] (.seq (.reg [.mk 12 (.mv (.t 28)) none]) (.reg [.mk 13 (.mv (.t 29)) none])) (.block 1 (.seq (.seq (.reg [.mk 31 (.mv (.t 11)) none,.mk 32 (.bin .eql (.t 30) (.c (.int .i64 0))) none]) (.cond (.t 31) (.seq (.seq (.reg [.mk 34 (.mv (.t 12)) none,.mk 35 (.scall 85 [(.t 33)]) none,.mk 33 (.mv (.t 34)) none,.mk 36 (.ext (.t 32) 0) none,.mk 37 (.ext (.t 32) 1) none,.mk 0 (.st 5 (.t 10) (.t 35)) none,.mk 0 (.st 1 (.t 8) (.t 36)) none]) (.seq (.reg [.mk 38 (.ld1 (.t 8)) none,.mk 39 (.bin .neq (.t 37) (.c (.int .i64 0))) none,.mk 40 (.mv (.t 38)) none,.mk 41 (.fa 0 (.t 10)) (some (39,false)),.mk 42 (.ld1 (.t 40)) (some (39,false)),.mk 43 (.fa 0 (.t 3)) (some (39,false)),.mk 44 (.ld1 (.t 42)) (some (39,false)),.mk 45 (.bin .neq (.t 41) (.t 43)) (some (39,false)),.mk 46 (.pick (.t 39) (.c (.bool true)) (.t 44)) none]) (.cond (.t 45) (.seq (.reg [.mk 47 (.build [(.int .u32 0),(.int .u32 0),(.int .i64 0),.nils,.nils,.nils] []) none,.mk 0 (.st 6 (.t 6) (.t 46)) none,.mk 0 (.st 1 (.t 7) (.c (.int .i64 0))) none,.mk 0 (.st 1 (.t 8) (.c (.int .i64 130))) none]) .ret) .skip))) (.seq (.reg [.mk 48 (.fa 1 (.t 10)) none,.mk 49 (.ld1 (.t 47)) none,.mk 50 (.fa 2 (.t 10)) none,.mk 51 (.ld1 (.t 49)) none,.mk 52 (.fa 3 (.t 10)) none,.mk 53 (.ld1 (.t 51)) none,.mk 54 (.build [(.int .i64 0),.nils,.nils,.nils] [(0,1,(.t 52))]) none,.mk 55 (.build [(.int .u32 0),(.int .u32 0),(.int .i64 0),.nils,.nils,.nils] [(0,1,(.t 48)),(1,1,(.t 50)),(2,4,(.t 53))]) none,.mk 0 (.st 6 (.t 6) (.t 54)) none]) (.exit 1))) .skip)) (.seq (.seq (.reg [.mk 56 (.mv (.t 11)) none,.mk 57 (.fa 4 (.t 10)) none,.mk 58 (.ld1 (.t 56)) none,.mk 59 (.len (.t 57)) none,.mk 60 (.bin .gtr (.t 55) (.t 58)) none]) (.cond (.t 59) (.exit 0) .skip)) (.seq (.reg [.mk 61 (.fa 4 (.t 10)) none,.mk 62 (.ld1 (.t 60)) none,.mk 63 (.mv (.t 11)) none,.mk 64 (.bin .sub (.t 62) (.c (.int .i64 1))) none,.mk 65 (.ixs 3 (.t 61) (.t 63)) none,.mk 66 (.ldn 3 (.t 64)) none,.mk 14 (.new 283 3 [(.int .u8 0),(.bool false),(.int .u32 0)]) none,.mk 0 (.st 3 (.t 13) (.t 65)) none]) (.seq (.seq (.reg [.mk 67 (.mv (.t 12)) none,.mk 69 (.fa 2 (.t 13)) none,.mk 70 (.ld1 (.t 68)) none,.mk 68 (.scall 106 [(.t 66)]) none,.chk 69 (.ld1 (.t 68)) none,.mk 71 (.bin .neq (.t 67) (.t 69)) none,.mk 72 (.mv (.t 70)) none,.mk 73 (.mv (.t 12)) (some (71,false)),.mk 74 (.ixs 1 (.t 72) (.c (.int .i64 0))) (some (71,false)),.mk 75 (.ld1 (.t 73)) (some (71,false)),.mk 76 (.bin .eql (.t 74) (.c (.int .u8 78))) (some (71,false)),.mk 77 (.pick (.t 71) (.c (.bool true)) (.t 75)) none,.mk 78 (.mv (.t 76)) none,.mk 79 (.fa 1 (.t 13)) (some (77,false)),.mk 80 (.ld1 (.t 78)) (some (77,false)),.mk 81 (.mv (.t 79)) (some (77,false)),.mk 82 (.mv (.t 12)) (some (80,true)),.mk 83 (.ixs 1 (.t 81) (.c (.int .i64 0))) (some (80,true)),.mk 84 (.ld1 (.t 82)) (some (80,true)),.mk 85 (.bin .neq (.t 83) (.c (.int .u8 0))) (some (80,true)),.mk 86 (.pick (.t 80) (.t 84) (.c (.bool false))) (some (77,false)),.mk 87 (.pick (.t 77) (.c (.bool true)) (.t 85)) none]) (.cond (.t 86) (.seq (.reg [.mk 88 (.build [(.int .u32 0),(.int .u32 0),(.int .i64 0),.nils,.nils,.nils] []) none,.mk 0 (.st 6 (.t 6) (.t 87)) none,.mk 0 (.st 1 (.t 7) (.c (.int .i64 0))) none,.mk 0 (.st 1 (.t 8) (.c (.int .i64 130))) none]) .ret) .skip)) (.seq (.seq (.reg [.mk 89 (.fa 1 (.t 13)) none,.mk 90 (.ld1 (.t 88)) none]) (.cond (.t 89) (.reg [.mk 91 (.mv (.t 12)) none,.mk 92 (.ixs 1 (.t 90) (.c (.int .i64 0))) none,.mk 0 (.st 1 (.t 91) (.c (.int .u8 78))) none]) .skip)) (.seq (.seq (.reg [.mk 93 (.fa 0 (.t 13)) none,.mk 94 (.ld1 (.t 92)) none,.mk 95 (.bin .eql (.t 93) (.c (.int .u8 255))) none]) (.cond (.t 94) (.seq (.reg [.mk 96 (.mv (.t 12)) none,.mk 97 (.fa 2 (.t 6)) none,.mk 98 (.fa 3 (.t 96)) none,.mk 0 (.st 1 (.t 97) (.t 95)) none]) (.exit 1)) .skip)) (.reg [.mk 99 (.fa 2 (.t 6)) none,.mk 100 (.fa 1 (.t 98)) none,.mk 101 (.ld1 (.t 99)) none,.mk 102 (.fa 0 (.t 13)) none,.mk 103 (.ld1 (.t 101)) none,.mk 104 (.cvi .i64 (.t 102)) none,.mk 105 (.bsl 3 1 1 [(.int .i64 0)] [(0,1,(.t 103))]) none,.mk 107 (.fa 2 (.t 6)) none,.mk 108 (.fa 2 (.t 106)) none,.mk 109 (.ld1 (.t 107)) none,.mk 110 (.mv (.t 12)) none,.mk 111 (.bsl 54 1 1 [.nils] [(0,1,(.t 109))]) none,.mk 106 (.app 3 1 (.t 100) (.t 104)) none,.chk 108 (.ld1 (.t 107)) none,.mk 113 (.fa 2 (.t 6)) none,.mk 114 (.fa 1 (.t 112)) none,.mk 112 (.app 54 1 (.t 108) (.t 110)) none,.mk 0 (.st 1 (.t 113) (.t 105)) none,.mk 115 (.fa 2 (.t 6)) none,.mk 116 (.fa 2 (.t 114)) none,.mk 0 (.st 1 (.t 115) (.t 111)) none]))))))))))) (.seq (.seq (.reg [.mk 117 (.ldn 6 (.t 3)) none,.mk 118 (.fa 2 (.t 6)) none,.mk 119 (.ldn 4 (.t 117)) none,.mk 120 (.scall 129 [(.t 116),(.t 118)]) none,.mk 121 (.bin .neq (.t 119) (.c (.int .i64 0))) none]) (.cond (.t 120) (.seq (.reg [.mk 122 (.build [(.int .u32 0),(.int .u32 0),(.int .i64 0),.nils,.nils,.nils] []) none,.mk 0 (.st 6 (.t 6) (.t 121)) none,.mk 0 (.st 1 (.t 7) (.c (.int .i64 0))) none,.mk 0 (.st 1 (.t 8) (.c (.int .i64 130))) none]) .ret) .skip)) (.seq (.reg [.mk 123 (.ldn 6 (.t 6)) none,.mk 124 (.fa 4 (.t 10)) none,.mk 125 (.ld1 (.t 123)) none,.mk 126 (.len (.t 124)) none,.mk 127 (.bin .add (.c (.int .i64 1)) (.t 125)) none,.mk 0 (.st 6 (.t 6) (.t 122)) none,.chk 124 (.ld1 (.t 123)) none,.mk 0 (.st 1 (.t 7) (.t 126)) none,.mk 0 (.st 1 (.t 8) (.c (.int .i64 0))) none]) .ret)))))),[.cells 6 6,.cell 7,.cell 8]⟩
theorem g160:GK 160 Tryz.f160 a160:=⟨by kernel_rfl,Tryz.func160,by kernel_rfl⟩
def q178:FA Tryz.f178:=⟨_,by conv=>lhs;cbv⟩
def a178:=q178.1
theorem g178:GK 178 Tryz.f178 a178:={ c:=q178.2,f:=Tryz.func178 }
def q186:FA Tryz.f186:=⟨_,by conv=>lhs;cbv⟩
def a186:=q186.1
theorem g186:GK 186 Tryz.f186 a186:={ c:=q186.2,f:=Tryz.func186 }
def q189:FA Tryz.f189:=⟨_,by conv=>lhs;cbv⟩
def a189:=q189.1
theorem g189:GK 189 Tryz.f189 a189:={ c:=q189.2,f:=Tryz.func189 }
def q195:FA Tryz.f195:=⟨_,by conv=>lhs;cbv⟩
def a195:=q195.1
theorem g195:GK 195 Tryz.f195 a195:={ c:=q195.2,f:=Tryz.func195 }
def q199:FA Tryz.f199:=⟨_,by conv=>lhs;cbv⟩
def a199:=q199.1
theorem g199:GK 199 Tryz.f199 a199:={ c:=q199.2,f:=Tryz.func199 }
def q200:FA Tryz.f200:=⟨_,by conv=>lhs;cbv⟩
def a200:=q200.1
theorem g200:GK 200 Tryz.f200 a200:={ c:=q200.2,f:=Tryz.func200 }
def q208:FA Tryz.f208:=⟨_,by conv=>lhs;cbv⟩
def a208:=q208.1
theorem g208:GK 208 Tryz.f208 a208:={ c:=q208.2,f:=Tryz.func208 }
def a213:AFn:=⟨(.seq (.reg [.mk 3 (.mv (.c (.bool false))) none]) (.seq (.reg [.mk 7 (.mv (.t 0)) none,.mk 8 (.nilck (.t 6)) none,.mk 9 (.fa 5 (.t 7)) none,.mk 10 (.ldn 6 (.t 8)) none,.mk 11 (.scall 273 [(.t 9)]) none,.mk 6 (.mv (.t 10)) none,.mk 12 (.ext (.t 5) 0) none,.mk 13 (.ext (.t 5) 1) none,.mk 4 (.mv (.t 11)) none,.mk 5 (.mv (.t 12)) none]) (.seq (.reg [.mk 14 (.mv (.t 0)) none,.mk 15 (.nilck (.t 13)) none,.mk 16 (.fa 0 (.t 14)) none,.mk 17 (.fa 3 (.t 15)) none,.mk 18 (.ld1 (.t 16)) none,.mk 19 (.mv (.t 0)) none,.mk 20 (.nilck (.t 18)) none,.mk 21 (.fa 5 (.t 19)) none,.mk 22 (.fa 4 (.t 20)) none,.mk 23 (.ld1 (.t 21)) none,.mk 24 (.bin .leq (.t 17) (.t 22)) none,.mk 25 (.mv (.t 23)) none,.mk 26 (.mv (.t 0)) (some (24,true)),.mk 27 (.nilck (.t 25)) (some (24,true)),.mk 28 (.fa 5 (.t 26)) (some (24,true)),.mk 29 (.fa 4 (.t 27)) (some (24,true)),.mk 30 (.ld1 (.t 28)) (some (24,true)),.mk 31 (.mv (.t 0)) (some (24,true)),.mk 32 (.nilck (.t 30)) (some (24,true)),.mk 33 (.fa 0 (.t 31)) (some (24,true)),.mk 34 (.fa 3 (.t 32)) (some (24,true)),.mk 35 (.ld1 (.t 33)) (some (24,true)),.mk 36 (.bin .sub (.t 29) (.t 34)) (some (24,true)),.mk 37 (.mv (.t 3)) (some (24,true)),.mk 38 (.mv (.t 0)) (some (24,true)),.mk 39 (.scall 274 [(.t 37)]) (some (24,true)),.chk 29 (.ld1 (.t 28)) (some (24,true)),.chk 34 (.ld1 (.t 33)) (some (24,true)),.mk 40 (.bin .mul (.t 36) (.t 38)) (some (24,true)),.mk 41 (.bin .geq (.t 35) (.t 39)) (some (24,true)),.mk 42 (.pick (.t 24) (.t 40) (.c (.bool false))) none,.mk 3 (.mv (.t 41)) none]) .ret))),[.tmp 2]⟩
theorem g213:GK 213 Tryz.f213 a213:=⟨by kernel_rfl,Tryz.func213,by kernel_rfl⟩
def q235:FA Tryz.f235:=⟨_,by conv=>lhs;cbv⟩
def a235:=q235.1
theorem g235:GK 235 Tryz.f235 a235:={ c:=q235.2,f:=Tryz.func235 }
def q239:FA Tryz.f239:=⟨_,by conv=>lhs;cbv⟩
def a239:=q239.1
theorem g239:GK 239 Tryz.f239 a239:={ c:=q239.2,f:=Tryz.func239 }
def q273:FA Tryz.f273:=⟨_,by conv=>lhs;cbv⟩
def a273:=q273.1
theorem g273:GK 273 Tryz.f273 a273:={ c:=q273.2,f:=Tryz.func273 }
def q278:FA Tryz.f278:=⟨_,by conv=>lhs;cbv⟩
def a278:=q278.1
theorem g278:GK 278 Tryz.f278 a278:={ c:=q278.2,f:=Tryz.func278 }
def q279:FA Tryz.f279:=⟨_,by conv=>lhs;cbv⟩
def a279:=q279.1
theorem g279:GK 279 Tryz.f279 a279:={ c:=q279.2,f:=Tryz.func279 }
def q300:FA Tryz.f300:=⟨_,by conv=>lhs;cbv⟩
def a300:=q300.1
theorem g300:GK 300 Tryz.f300 a300:={ c:=q300.2,f:=Tryz.func300 }
def q324:FA Tryz.f324:=⟨_,by conv=>lhs;cbv⟩
def a324:=q324.1
theorem g324:GK 324 Tryz.f324 a324:={ c:=q324.2,f:=Tryz.func324 }
end X
end
end Go.AM
