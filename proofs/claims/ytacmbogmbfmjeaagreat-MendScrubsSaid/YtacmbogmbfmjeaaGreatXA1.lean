/-
 Functions of the program as the abstract machine reads them, and what is stated of them, checked by the kernel. No conditions.
-/
import Derived.Test.YtacmbogmbfmjeaaGreatXN
set_option linter.unusedVariables false
set_option linter.unusedSimpArgs false
set_option linter.unnecessarySimpa false
set_option maxRecDepth 100000
namespace Go.AM
noncomputable section
open Go.Proofs
namespace X
def q7:FA Tryz.f7:=⟨_,by conv=>lhs;cbv⟩
def a7:=q7.1
theorem g7:GK 7 Tryz.f7 a7:={ c:=q7.2,f:=Tryz.func7 }
def q9:FA Tryz.f9:=⟨_,by conv=>lhs;cbv⟩
def a9:=q9.1
theorem g9:GK 9 Tryz.f9 a9:={ c:=q9.2,f:=Tryz.func9 }
def q11:FA Tryz.f11:=⟨_,by conv=>lhs;cbv⟩
def a11:=q11.1
theorem g11:GK 11 Tryz.f11 a11:={ c:=q11.2,f:=Tryz.func11 }
def q20:FA Tryz.f20:=⟨_,by conv=>lhs;cbv⟩
def a20:=q20.1
theorem g20:GK 20 Tryz.f20 a20:={ c:=q20.2,f:=Tryz.func20 }
def q26:FA Tryz.f26:=⟨_,by conv=>lhs;cbv⟩
def a26:=q26.1
theorem g26:GK 26 Tryz.f26 a26:={ c:=q26.2,f:=Tryz.func26 }
def q46:FA Tryz.f46:=⟨_,by conv=>lhs;cbv⟩
def a46:=q46.1
theorem g46:GK 46 Tryz.f46 a46:={ c:=q46.2,f:=Tryz.func46 }
def q54:FA Tryz.f54:=⟨_,by conv=>lhs;cbv⟩
def a54:=q54.1
theorem g54:GK 54 Tryz.f54 a54:={ c:=q54.2,f:=Tryz.func54 }
def q55:FA Tryz.f55:=⟨_,by conv=>lhs;cbv⟩
def a55:=q55.1
theorem g55:GK 55 Tryz.f55 a55:={ c:=q55.2,f:=Tryz.func55 }
def q61:FA Tryz.f61:=⟨_,by conv=>lhs;cbv⟩
def a61:=q61.1
theorem g61:GK 61 Tryz.f61 a61:={ c:=q61.2,f:=Tryz.func61 }
def q74:FA Tryz.f74:=⟨_,by conv=>lhs;cbv⟩
def a74:=q74.1
theorem g74:GK 74 Tryz.f74 a74:={ c:=q74.2,f:=Tryz.func74 }
def q77:FA Tryz.f77:=⟨_,by conv=>lhs;cbv⟩
def a77:=q77.1
theorem g77:GK 77 Tryz.f77 a77:={ c:=q77.2,f:=Tryz.func77 }
def q80:FA Tryz.f80:=⟨_,by conv=>lhs;cbv⟩
def a80:=q80.1
theorem g80:GK 80 Tryz.f80 a80:={ c:=q80.2,f:=Tryz.func80 }
def q81:FA Tryz.f81:=⟨_,by conv=>lhs;cbv⟩
def a81:=q81.1
theorem g81:GK 81 Tryz.f81 a81:={ c:=q81.2,f:=Tryz.func81 }
def q84:FA Tryz.f84:=⟨_,by conv=>lhs;cbv⟩
def a84:=q84.1
theorem g84:GK 84 Tryz.f84 a84:={ c:=q84.2,f:=Tryz.func84 }
def q88:FA Tryz.f88:=⟨_,by conv=>lhs;cbv⟩
def Lk:=q88.1
theorem g88:GK 88 Tryz.f88 Lk:={ c:=q88.2,f:=Tryz.func88 }
def q92:FA Tryz.f92:=⟨_,by conv=>lhs;cbv⟩
def a92:=q92.1
theorem g92:GK 92 Tryz.f92 a92:={ c:=q92.2,f:=Tryz.func92 }
def q96:FA Tryz.f96:=⟨_,by conv=>lhs;cbv⟩
def a96:=q96.1
theorem g96:GK 96 Tryz.f96 a96:={ c:=q96.2,f:=Tryz.func96 }
def q103:FA Tryz.f103:=⟨_,by conv=>lhs;cbv⟩
def N7:=q103.1
theorem g103:GK 103 Tryz.f103 N7:={ c:=q103.2,f:=Tryz.func103 }
def q104:FA Tryz.f104:=⟨_,by conv=>lhs;cbv⟩
def QY:=q104.1
theorem g104:GK 104 Tryz.f104 QY:={ c:=q104.2,f:=Tryz.func104 }
def q106:FA Tryz.f106:=⟨_,by conv=>lhs;cbv⟩
def QW:=q106.1
theorem g106:GK 106 Tryz.f106 QW:={ c:=q106.2,f:=Tryz.func106 }
def q113:FA Tryz.f113:=⟨_,by conv=>lhs;cbv⟩
def N2:=q113.1
theorem g113:GK 113 Tryz.f113 N2:={ c:=q113.2,f:=Tryz.func113 }
def q114:FA Tryz.f114:=⟨_,by conv=>lhs;cbv⟩
def N1:=q114.1
theorem g114:GK 114 Tryz.f114 N1:={ c:=q114.2,f:=Tryz.func114 }
def q118:FA Tryz.f118:=⟨_,by conv=>lhs;cbv⟩
def QR:=q118.1
theorem g118:GK 118 Tryz.f118 QR:={ c:=q118.2,f:=Tryz.func118 }
def q127:FA Tryz.f127:=⟨_,by conv=>lhs;cbv⟩
def a127:=q127.1
theorem g127:GK 127 Tryz.f127 a127:={ c:=q127.2,f:=Tryz.func127 }
def q133:FA Tryz.f133:=⟨_,by conv=>lhs;cbv⟩
def QQ:=q133.1
theorem g133:GK 133 Tryz.f133 QQ:={ c:=q133.2,f:=Tryz.func133 }
def q143:FA Tryz.f143:=⟨_,by conv=>lhs;cbv⟩
def Nu:=q143.1
theorem g143:GK 143 Tryz.f143 Nu:={ c:=q143.2,f:=Tryz.func143 }
def Nr:AFn:=⟨(.seq (.reg [.mk 3 (.mv (.c (.bool false))) none]) (.seq (.reg [.mk 13 (.mv (.t 0)) none,.mk 14 (.nilck (.t 12)) none,.mk 15 (.fa 5 (.t 13)) none,.mk 16 (.ldn 6 (.t 14)) none,.mk 17 (.scall 40 [(.t 15)]) none,.mk 12 (.mv (.t 16)) none,.mk 18 (.ext (.t 11) 0) none,.mk 19 (.ext (.t 11) 1) none,.mk 4 (.mv (.t 17)) none,.mk 5 (.mv (.t 18)) none]) (.seq (.reg [.mk 21 (.mv (.t 0)) none,.mk 22 (.nilck (.t 20)) none,.mk 23 (.fa 5 (.t 21)) none,.mk 24 (.ldn 6 (.t 22)) none,.mk 25 (.scall 185 [(.t 23)]) none,.mk 20 (.mv (.t 24)) none,.mk 26 (.ext (.t 19) 0) none,.mk 27 (.ext (.t 19) 1) none,.mk 6 (.mv (.t 25)) none,.mk 7 (.mv (.t 26)) none]) (.seq (.seq (.reg [.mk 28 (.mv (.t 0)) none,.mk 29 (.nilck (.t 27)) none,.mk 30 (.fa 0 (.t 28)) none,.mk 31 (.fa 0 (.t 29)) none,.mk 32 (.ld1 (.t 30)) none,.mk 33 (.scall 186 [(.t 31)]) none,.mk 34 (.un .not (.t 32)) none,.mk 35 (.mv (.t 33)) none,.mk 36 (.mv (.t 0)) (some (34,false)),.mk 37 (.nilck (.t 35)) (some (34,false)),.mk 38 (.fa 0 (.t 36)) (some (34,false)),.mk 39 (.fa 1 (.t 37)) (some (34,false)),.mk 40 (.ld1 (.t 38)) (some (34,false)),.mk 41 (.scall 186 [(.t 39)]) (some (34,false)),.mk 42 (.un .not (.t 40)) (some (34,false)),.mk 43 (.pick (.t 34) (.c (.bool true)) (.t 41)) none,.mk 44 (.mv (.t 42)) none,.mk 45 (.mv (.t 0)) (some (43,false)),.mk 46 (.nilck (.t 44)) (some (43,false)),.mk 47 (.fa 0 (.t 45)) (some (43,false)),.mk 48 (.fa 2 (.t 46)) (some (43,false)),.mk 49 (.ld1 (.t 47)) (some (43,false)),.mk 50 (.bin .lss (.t 48) (.c (.int .i64 0))) (some (43,false)),.mk 51 (.pick (.t 43) (.c (.bool true)) (.t 49)) none,.mk 52 (.mv (.t 50)) none,.mk 53 (.mv (.t 0)) (some (51,false)),.mk 54 (.nilck (.t 52)) (some (51,false)),.mk 55 (.fa 0 (.t 53)) (some (51,false)),.mk 56 (.fa 2 (.t 54)) (some (51,false)),.mk 57 (.ld1 (.t 55)) (some (51,false)),.mk 58 (.mv (.t 0)) (some (51,false)),.mk 59 (.nilck (.t 57)) (some (51,false)),.mk 60 (.fa 5 (.t 58)) (some (51,false)),.mk 61 (.fa 4 (.t 59)) (some (51,false)),.mk 62 (.ld1 (.t 60)) (some (51,false)),.mk 63 (.bin .geq (.t 56) (.t 61)) (some (51,false)),.mk 64 (.pick (.t 51) (.c (.bool true)) (.t 62)) none,.mk 65 (.mv (.t 63)) none,.mk 66 (.mv (.t 0)) (some (64,false)),.mk 67 (.nilck (.t 65)) (some (64,false)),.mk 68 (.fa 0 (.t 66)) (some (64,false)),.mk 69 (.fa 4 (.t 67)) (some (64,false)),.mk 70 (.ld1 (.t 68)) (some (64,false)),.mk 71 (.len (.t 69)) (some (64,false)),.mk 72 (.mv (.t 0)) (some (64,false)),.mk 73 (.nilck (.t 71)) (some (64,false)),.mk 74 (.fa 5 (.t 72)) (some (64,false)),.mk 75 (.fa 4 (.t 73)) (some (64,false)),.mk 76 (.ld1 (.t 74)) (some (64,false)),.mk 77 (.bin .gtr (.t 70) (.t 75)) (some (64,false)),.mk 78 (.pick (.t 64) (.c (.bool true)) (.t 76)) none,.mk 79 (.mv (.t 77)) none,.mk 80 (.mv (.t 0)) (some (78,false)),.mk 81 (.nilck (.t 79)) (some (78,false)),.mk 82 (.fa 0 (.t 80)) (some (78,false)),.mk 83 (.fa 3 (.t 81)) (some (78,false)),.mk 84 (.ld1 (.t 82)) (some (78,false)),.mk 85 (.mv (.t 0)) (some (78,false)),.mk 86 (.nilck (.t 84)) (some (78,false)),.mk 87 (.fa 5 (.t 85)) (some (78,false)),.mk 88 (.fa 4 (.t 86)) (some (78,false)),.mk 89 (.ld1 (.t 87)) (some (78,false)),.mk 90 (.bin .gtr (.t 83) (.t 88)) (some (78,false)),.mk 91 (.pick (.t 78) (.c (.bool true)) (.t 89)) none]) (.cond (.t 90) (.seq (.reg [.mk 3 (.mv (.c (.bool false))) none]) .ret) .skip)) (.seq (.reg [.mk 8 (.mv (.c (.int .i64 0))) none,.mk 9 (.mv (.c (.bool true))) none]) (.seq (.seq (.reg [.mk 92 (.mv (.t 0)) none,.mk 93 (.nilck (.t 91)) none,.mk 94 (.fa 0 (.t 92)) none,.mk 95 (.fa 4 (.t 93)) none,.mk 96 (.ld1 (.t 94)) none,.mk 97 (.len (.t 95)) none,.mk 98 (.mv (.c (.int .i64 0))) none]) (.block 0 (.loop (.seq (.reg [.mk 99 (.bin .lss (.t 97) (.t 96)) none]) (.seq (.cond (.t 98) .skip (.exit 0)) (.seq (.block 1 (.seq (.reg [.mk 100 (.mv (.t 97)) none,.mk 101 (.ixs 6 (.t 95) (.t 97)) none,.mk 102 (.ldn 6 (.t 100)) none,.mk 11 (.new 128 6 [(.int .u32 0),(.int .i64 0),(.int .i64 0),(.bool false),(.bool false),(.bool false)]) none,.mk 10 (.mv (.t 99)) none,.mk 0 (.st 6 (.t 10) (.t 101)) none]) (.seq (.seq (.reg [.mk 103 (.fa 1 (.t 10)) none,.mk 104 (.ld1 (.t 102)) none,.mk 105 (.bin .lss (.t 103) (.c (.int .i64 0))) none,.mk 106 (.mv (.t 104)) none,.mk 107 (.fa 1 (.t 10)) (some (105,false)),.mk 108 (.ld1 (.t 106)) (some (105,false)),.mk 109 (.mv (.t 3)) (some (105,false)),.mk 110 (.bin .geq (.t 107) (.t 108)) (some (105,false)),.mk 111 (.pick (.t 105) (.c (.bool true)) (.t 109)) none,.mk 112 (.mv (.t 110)) none,.mk 113 (.fa 2 (.t 10)) (some (111,false)),.mk 114 (.ld1 (.t 112)) (some (111,false)),.mk 115 (.bin .lss (.t 113) (.c (.int .i64 2))) (some (111,false)),.mk 116 (.pick (.t 111) (.c (.bool true)) (.t 114)) none,.mk 117 (.mv (.t 115)) none,.mk 118 (.fa 2 (.t 10)) (some (116,false)),.mk 119 (.ld1 (.t 117)) (some (116,false)),.mk 120 (.mv (.t 5)) (some (116,false)),.mk 121 (.bin .gtr (.t 118) (.t 119)) (some (116,false)),.mk 122 (.pick (.t 116) (.c (.bool true)) (.t 120)) none,.mk 123 (.mv (.t 121)) none,.mk 124 (.fa 0 (.t 10)) (some (122,false)),.mk 125 (.ld1 (.t 123)) (some (122,false)),.mk 126 (.bin .eql (.t 124) (.c (.int .u32 0))) (some (122,false)),.mk 127 (.pick (.t 122) (.c (.bool true)) (.t 125)) none,.mk 128 (.mv (.t 126)) none,.mk 129 (.fa 0 (.t 10)) (some (127,false)),.mk 130 (.ld1 (.t 128)) (some (127,false)),.mk 131 (.mv (.t 0)) (some (127,false)),.mk 132 (.nilck (.t 130)) (some (127,false)),.mk 133 (.fa 0 (.t 131)) (some (127,false)),.mk 134 (.fa 1 (.t 132)) (some (127,false)),.mk 135 (.ld1 (.t 133)) (some (127,false)),.mk 136 (.mv (.t 0)) (some (127,false)),.mk 137 (.nilck (.t 135)) (some (127,false)),.mk 138 (.fa 0 (.t 136)) (some (127,false)),.mk 139 (.fa 4 (.t 137)) (some (127,false)),.mk 140 (.ld1 (.t 138)) (some (127,false)),.mk 141 (.len (.t 139)) (some (127,false)),.mk 142 (.mv (.t 9)) (some (127,false)),.mk 143 (.bin .sub (.t 140) (.t 141)) (some (127,false)),.mk 144 (.cvi .u32 (.t 142)) (some (127,false)),.mk 145 (.bin .sub (.t 134) (.t 143)) (some (127,false)),.mk 146 (.bin .neq (.t 129) (.t 144)) (some (127,false)),.mk 147 (.pick (.t 127) (.c (.bool true)) (.t 145)) none,.mk 148 (.mv (.t 146)) none,.mk 149 (.fa 4 (.t 10)) (some (147,false)),.mk 150 (.ld1 (.t 148)) (some (147,false)),.mk 151 (.mv (.t 149)) (some (147,false)),.mk 152 (.mv (.t 8)) (some (150,true)),.mk 153 (.un .not (.t 151)) (some (150,true)),.mk 154 (.pick (.t 150) (.t 152) (.c (.bool false))) (some (147,false)),.mk 155 (.pick (.t 147) (.c (.bool true)) (.t 153)) none]) (.cond (.t 154) (.seq (.reg [.mk 3 (.mv (.c (.bool false))) none]) .ret) .skip)) (.seq (.reg [.mk 156 (.mv (.t 7)) none,.mk 157 (.fa 2 (.t 10)) none,.mk 158 (.ld1 (.t 156)) none,.mk 159 (.bin .add (.t 155) (.t 157)) none,.mk 8 (.mv (.t 158)) none]) (.reg [.mk 160 (.fa 4 (.t 10)) none,.mk 161 (.ld1 (.t 159)) none,.mk 9 (.mv (.t 160)) none]))))) (.reg [.mk 162 (.bin .add (.t 97) (.c (.int .i64 1))) none,.mk 98 (.mv (.t 161)) none]))))))) (.seq (.reg [.mk 163 (.mv (.t 7)) none,.mk 164 (.mv (.t 0)) none,.mk 165 (.nilck (.t 163)) none,.mk 166 (.fa 0 (.t 164)) none,.mk 167 (.fa 3 (.t 165)) none,.mk 168 (.ld1 (.t 166)) none,.mk 169 (.bin .eql (.t 162) (.t 167)) none,.mk 170 (.mv (.t 168)) none,.mk 171 (.mv (.t 0)) (some (169,true)),.mk 172 (.nilck (.t 170)) (some (169,true)),.mk 173 (.fa 0 (.t 171)) (some (169,true)),.mk 174 (.fa 1 (.t 172)) (some (169,true)),.mk 175 (.ld1 (.t 173)) (some (169,true)),.mk 176 (.cvi .i64 (.t 174)) (some (169,true)),.mk 177 (.mv (.t 0)) (some (169,true)),.mk 178 (.nilck (.t 176)) (some (169,true)),.mk 179 (.fa 0 (.t 177)) (some (169,true)),.mk 180 (.fa 4 (.t 178)) (some (169,true)),.mk 181 (.ld1 (.t 179)) (some (169,true)),.mk 182 (.len (.t 180)) (some (169,true)),.mk 183 (.bin .gtr (.t 175) (.t 181)) (some (169,true)),.mk 184 (.pick (.t 169) (.t 182) (.c (.bool false))) none,.mk 185 (.mv (.t 183)) none,.mk 186 (.mv (.t 0)) (some (184,true)),.mk 187 (.scall 187 [(.t 185)]) (some (184,true)),.mk 188 (.pick (.t 184) (.t 186) (.c (.bool false))) none,.mk 189 (.mv (.t 187)) none,.mk 190 (.mv (.t 0)) (some (188,true)),.mk 191 (.scall 188 [(.t 189)]) (some (188,true)),.mk 192 (.pick (.t 188) (.t 190) (.c (.bool false))) none,.mk 3 (.mv (.t 191)) none]) .ret))))))),[.tmp 2]⟩
theorem g149:GK 149 Tryz.f149 Nr:=⟨by kernel_rfl,Tryz.func149,by kernel_rfl⟩
def q159:FA Tryz.f159:=⟨_,by conv=>lhs;cbv⟩
def Q9:=q159.1
theorem g159:GK 159 Tryz.f159 Q9:={ c:=q159.2,f:=Tryz.func159 }
def q161:FA Tryz.f161:=⟨_,by conv=>lhs;cbv⟩
def Q7:=q161.1
theorem g161:GK 161 Tryz.f161 Q7:={ c:=q161.2,f:=Tryz.func161 }
def q164:FA Tryz.f164:=⟨_,by conv=>lhs;cbv⟩
def KZ:=q164.1
theorem g164:GK 164 Tryz.f164 KZ:={ c:=q164.2,f:=Tryz.func164 }
def q177:FA Tryz.f177:=⟨_,by conv=>lhs;cbv⟩
def Q4:=q177.1
theorem g177:GK 177 Tryz.f177 Q4:={ c:=q177.2,f:=Tryz.func177 }
def q188:FA Tryz.f188:=⟨_,by conv=>lhs;cbv⟩
def Qz:=q188.1
theorem g188:GK 188 Tryz.f188 Qz:={ c:=q188.2,f:=Tryz.func188 }
def q202:FA Tryz.f202:=⟨_,by conv=>lhs;cbv⟩
def VN:=q202.1
theorem g202:GK 202 Tryz.f202 VN:={ c:=q202.2,f:=Tryz.func202 }
def Qr:AFn:=⟨(.seq (.reg [.mk 2 (.box 242 10 (.t 0)) none,.mk 3 (.mv (.c .nils)) none]) (.seq (.reg [.mk 4 (.new 3 1 [(.int .i64 0)]) none,.mk 0 (.st 1 (.t 3) (.c (.int .i64 0))) none]) (.seq (.reg [.mk 8 (.mkfn 216 [] [(.t 3)]) none,.mk 5 (.mv (.t 7)) none]) (.seq (.reg [.mk 9 (.fa 7 (.t 1)) none,.mk 10 (.ld1 (.t 8)) none,.mk 6 (.mv (.t 9)) none,.mk 7 (.mv (.c (.int .i64 0))) none]) (.seq (.seq (.reg [.mk 11 (.mv (.t 5)) none,.mk 12 (.bin .eql (.t 10) (.c (.int .i64 (-1)))) none]) (.cond (.t 11) (.reg [.mk 6 (.mv (.c (.int .i64 255))) none]) .skip)) (.seq (.seq (.reg [.mk 13 (.fa 9 (.t 1)) none,.mk 14 (.ld1 (.t 12)) none]) (.cond (.t 13) (.reg [.mk 7 (.mv (.c (.int .i64 1))) none]) .skip)) (.seq (.reg [.mk 15 (.mv (.t 4)) none,.mk 17 (.mv (.t 4)) none,.mk 18 (.fa 0 (.t 1)) none,.mk 19 (.ld1 (.t 17)) none,.mk 20 (.cvi .i64 (.t 18)) none,.mk 22 (.mv (.t 4)) none,.mk 23 (.fa 1 (.t 1)) none,.mk 24 (.ld1 (.t 22)) none,.mk 25 (.cvi .i64 (.t 23)) none,.mk 27 (.mv (.t 4)) none,.mk 28 (.fa 2 (.t 1)) none,.mk 29 (.ld1 (.t 27)) none,.mk 31 (.mv (.t 4)) none,.mk 32 (.fa 3 (.t 1)) none,.mk 33 (.ld1 (.t 31)) none,.mk 35 (.mv (.t 4)) none,.mk 36 (.fa 4 (.t 1)) none,.mk 37 (.ld1 (.t 35)) none,.mk 39 (.mv (.t 4)) none,.mk 40 (.fa 5 (.t 1)) none,.mk 41 (.ld1 (.t 39)) none,.mk 43 (.mv (.t 4)) none,.mk 44 (.fa 6 (.t 1)) none,.mk 45 (.ld1 (.t 43)) none,.mk 47 (.mv (.t 4)) none,.mk 48 (.mv (.t 5)) none,.mk 50 (.mv (.t 4)) none,.mk 51 (.fa 8 (.t 1)) none,.mk 52 (.ld1 (.t 50)) none,.mk 54 (.mv (.t 4)) none,.mk 55 (.mv (.t 6)) none,.mk 16 (.call (.t 14) [(.c (.int .i64 76)),(.c (.int .i64 1))]) none,.chk 18 (.ld1 (.t 17)) none,.chk 23 (.ld1 (.t 22)) none,.chk 28 (.ld1 (.t 27)) none,.chk 32 (.ld1 (.t 31)) none,.chk 36 (.ld1 (.t 35)) none,.chk 40 (.ld1 (.t 39)) none,.chk 44 (.ld1 (.t 43)) none,.chk 51 (.ld1 (.t 50)) none,.mk 21 (.call (.t 16) [(.t 19),(.c (.int .i64 4))]) none,.chk 23 (.ld1 (.t 22)) none,.chk 28 (.ld1 (.t 27)) none,.chk 32 (.ld1 (.t 31)) none,.chk 36 (.ld1 (.t 35)) none,.chk 40 (.ld1 (.t 39)) none,.chk 44 (.ld1 (.t 43)) none,.chk 51 (.ld1 (.t 50)) none,.mk 26 (.call (.t 21) [(.t 24),(.c (.int .i64 4))]) none,.chk 28 (.ld1 (.t 27)) none,.chk 32 (.ld1 (.t 31)) none,.chk 36 (.ld1 (.t 35)) none,.chk 40 (.ld1 (.t 39)) none,.chk 44 (.ld1 (.t 43)) none,.chk 51 (.ld1 (.t 50)) none,.mk 30 (.call (.t 26) [(.t 28),(.c (.int .i64 1))]) none,.chk 32 (.ld1 (.t 31)) none,.chk 36 (.ld1 (.t 35)) none,.chk 40 (.ld1 (.t 39)) none,.chk 44 (.ld1 (.t 43)) none,.chk 51 (.ld1 (.t 50)) none,.mk 34 (.call (.t 30) [(.t 32),(.c (.int .i64 1))]) none,.chk 36 (.ld1 (.t 35)) none,.chk 40 (.ld1 (.t 39)) none,.chk 44 (.ld1 (.t 43)) none,.chk 51 (.ld1 (.t 50)) none,.mk 38 (.call (.t 34) [(.t 36),(.c (.int .i64 1))]) none,.chk 40 (.ld1 (.t 39)) none,.chk 44 (.ld1 (.t 43)) none,.chk 51 (.ld1 (.t 50)) none,.mk 42 (.call (.t 38) [(.t 40),(.c (.int .i64 1))]) none,.chk 44 (.ld1 (.t 43)) none,.chk 51 (.ld1 (.t 50)) none,.mk 46 (.call (.t 42) [(.t 44),(.c (.int .i64 1))]) none,.chk 51 (.ld1 (.t 50)) none,.mk 49 (.call (.t 46) [(.t 47),(.c (.int .i64 1))]) none,.chk 51 (.ld1 (.t 50)) none,.mk 53 (.call (.t 49) [(.t 51),(.c (.int .i64 1))]) none,.mk 56 (.call (.t 53) [(.t 54),(.c (.int .i64 1))]) none,.mk 57 (.bsl 259 3 11 [(.int .i64 0),(.int .i64 0),(.int .i64 0),(.int .i64 0),(.int .i64 0),(.int .i64 0),(.int .i64 0),(.int .i64 0),(.int .i64 0),(.int .i64 0),(.int .i64 0),(.int .i64 0),(.int .i64 0),(.int .i64 0),(.int .i64 0),(.int .i64 0),(.int .i64 0),(.int .i64 0),(.int .i64 0),(.int .i64 0),(.int .i64 0),(.int .i64 0),(.int .i64 0),(.int .i64 0),(.int .i64 0),(.int .i64 0),(.int .i64 0),(.int .i64 0),(.int .i64 0),(.int .i64 0),(.int .i64 0),(.int .i64 0),(.int .i64 0)] [(0,3,(.t 15)),(3,3,(.t 20)),(6,3,(.t 25)),(9,3,(.t 29)),(12,3,(.t 33)),(15,3,(.t 37)),(18,3,(.t 41)),(21,3,(.t 45)),(24,3,(.t 48)),(27,3,(.t 52)),(30,3,(.t 55))]) none,.mk 3 (.mv (.t 56)) none]) .ret))))))),[.tmp 2]⟩
theorem g205:GK 205 Tryz.f205 Qr:=⟨by kernel_rfl,Tryz.func205,by kernel_rfl⟩
def q207:FA Tryz.f207:=⟨_,by conv=>lhs;cbv⟩
def Qp:=q207.1
theorem g207:GK 207 Tryz.f207 Qp:={ c:=q207.2,f:=Tryz.func207 }
def q211:FA Tryz.f211:=⟨_,by conv=>lhs;cbv⟩
def Nc:=q211.1
theorem g211:GK 211 Tryz.f211 Nc:={ c:=q211.2,f:=Tryz.func211 }
def q220:FA Tryz.f220:=⟨_,by conv=>lhs;cbv⟩
def MX:=q220.1
theorem g220:GK 220 Tryz.f220 MX:={ c:=q220.2,f:=Tryz.func220 }
end X
end
end Go.AM
