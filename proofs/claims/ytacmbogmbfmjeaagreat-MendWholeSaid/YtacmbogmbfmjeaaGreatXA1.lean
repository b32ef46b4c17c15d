/- Contracts of functions over the abstract machine. No conditions. -/
import Derived.Test.YtacmbogmbfmjeaaGreatXN
set_option maxRecDepth 100000
namespace Go.AM
noncomputable section
open Go.Proofs
namespace X
def q10:FA Tryz.f10:=⟨_,by conv=>lhs;cbv⟩
def a10:=q10.1
theorem g10:GK 10 Tryz.f10 a10:={ c:=q10.2,f:=Tryz.func10 }
def q13:FA Tryz.f13:=⟨_,by conv=>lhs;cbv⟩
def Ic:=q13.1
theorem g13:GK 13 Tryz.f13 Ic:={ c:=q13.2,f:=Tryz.func13 }
def q15:FA Tryz.f15:=⟨_,by conv=>lhs;cbv⟩
def Ib:=q15.1
theorem g15:GK 15 Tryz.f15 Ib:={ c:=q15.2,f:=Tryz.func15 }
def q20:FA Tryz.f20:=⟨_,by conv=>lhs;cbv⟩
def HY:=q20.1
theorem g20:GK 20 Tryz.f20 HY:={ c:=q20.2,f:=Tryz.func20 }
def q23:FA Tryz.f23:=⟨_,by conv=>lhs;cbv⟩
def a23:=q23.1
theorem g23:GK 23 Tryz.f23 a23:={ c:=q23.2,f:=Tryz.func23 }
def a25:AFn:=⟨(.seq (.reg [.mk 5 (.mv (.c (.bool false))) none]) (.seq (.seq (.reg [.mk 7 (.mv (.t 0)) none,.mk 8 (.len (.t 6)) none,.mk 9 (.mv (.t 1)) none,.mk 10 (.len (.t 8)) none,.mk 11 (.bin .neq (.t 7) (.t 9)) none]) (.cond (.t 10) (.seq (.reg [.mk 5 (.mv (.c (.bool false))) none]) .ret) .skip)) (.seq (.seq (.reg [.mk 6 (.mv (.c (.int .i64 0))) none]) (.block 0 (.loop (.seq (.seq (.reg [.mk 12 (.mv (.t 5)) none,.mk 13 (.mv (.t 0)) none,.mk 14 (.len (.t 12)) none,.mk 15 (.bin .lss (.t 11) (.t 13)) none]) (.cond (.t 14) .skip (.exit 0))) (.seq (.block 1 (.seq (.reg [.mk 18 (.mv (.t 0)) none,.mk 19 (.mv (.t 5)) none,.mk 20 (.ixs 4 (.t 17) (.t 18)) none,.mk 21 (.fa 0 (.t 19)) none,.mk 22 (.ld1 (.t 20)) none,.mk 23 (.mv (.t 1)) none,.mk 24 (.mv (.t 5)) none,.mk 25 (.ixs 4 (.t 22) (.t 23)) none,.mk 26 (.fa 0 (.t 24)) none,.mk 27 (.ld1 (.t 25)) none,.mk 28 (.bin .neq (.t 21) (.t 26)) none,.mk 29 (.mv (.t 27)) none,.mk 30 (.mv (.t 0)) (some (28,false)),.mk 31 (.mv (.t 5)) (some (28,false)),.mk 32 (.ixs 4 (.t 29) (.t 30)) (some (28,false)),.mk 33 (.fa 1 (.t 31)) (some (28,false)),.mk 34 (.ld1 (.t 32)) (some (28,false)),.mk 35 (.mv (.t 1)) (some (28,false)),.mk 36 (.mv (.t 5)) (some (28,false)),.mk 37 (.ixs 4 (.t 34) (.t 35)) (some (28,false)),.mk 38 (.fa 1 (.t 36)) (some (28,false)),.mk 39 (.ld1 (.t 37)) (some (28,false)),.mk 40 (.bin .neq (.t 33) (.t 38)) (some (28,false)),.mk 41 (.pick (.t 28) (.c (.bool true)) (.t 39)) none,.mk 42 (.mv (.t 40)) none,.mk 43 (.mv (.t 0)) (some (41,false)),.mk 44 (.mv (.t 5)) (some (41,false)),.mk 45 (.ixs 4 (.t 42) (.t 43)) (some (41,false)),.mk 46 (.fa 2 (.t 44)) (some (41,false)),.mk 47 (.ld1 (.t 45)) (some (41,false)),.mk 48 (.mv (.t 1)) (some (41,false)),.mk 49 (.mv (.t 5)) (some (41,false)),.mk 50 (.ixs 4 (.t 47) (.t 48)) (some (41,false)),.mk 51 (.fa 2 (.t 49)) (some (41,false)),.mk 52 (.ld1 (.t 50)) (some (41,false)),.mk 53 (.bin .neq (.t 46) (.t 51)) (some (41,false)),.mk 54 (.pick (.t 41) (.c (.bool true)) (.t 52)) none,.mk 55 (.mv (.t 53)) none,.mk 56 (.mv (.t 0)) (some (54,false)),.mk 57 (.mv (.t 5)) (some (54,false)),.mk 58 (.ixs 4 (.t 55) (.t 56)) (some (54,false)),.mk 59 (.fa 3 (.t 57)) (some (54,false)),.mk 60 (.ld1 (.t 58)) (some (54,false)),.mk 61 (.b2s (.t 59)) (some (54,false)),.mk 62 (.mv (.t 1)) (some (54,false)),.mk 63 (.mv (.t 5)) (some (54,false)),.mk 64 (.ixs 4 (.t 61) (.t 62)) (some (54,false)),.mk 65 (.fa 3 (.t 63)) (some (54,false)),.mk 66 (.ld1 (.t 64)) (some (54,false)),.mk 67 (.b2s (.t 65)) (some (54,false)),.mk 68 (.bin .neq (.t 60) (.t 66)) (some (54,false)),.mk 69 (.pick (.t 54) (.c (.bool true)) (.t 67)) none]) (.cond (.t 68) (.seq (.reg [.mk 5 (.mv (.c (.bool false))) none]) .ret) .skip))) (.reg [.mk 16 (.mv (.t 5)) none,.mk 17 (.bin .add (.t 15) (.c (.int .i64 1))) none,.mk 6 (.mv (.t 16)) none])))))) (.seq (.reg [.mk 5 (.mv (.c (.bool true))) none]) .ret)))),[.tmp 4]⟩
theorem g25:GK 25 Tryz.f25 a25:=⟨by kernel_rfl,Tryz.func25,by kernel_rfl⟩
def q30:FA Tryz.f30:=⟨_,by conv=>lhs;cbv⟩
def a30:=q30.1
theorem g30:GK 30 Tryz.f30 a30:={ c:=q30.2,f:=Tryz.func30 }
def q32:FA Tryz.f32:=⟨_,by conv=>lhs;cbv⟩
def a32:=q32.1
theorem g32:GK 32 Tryz.f32 a32:={ c:=q32.2,f:=Tryz.func32 }
def q38:FA Tryz.f38:=⟨_,by conv=>lhs;cbv⟩
def a38:=q38.1
theorem g38:GK 38 Tryz.f38 a38:={ c:=q38.2,f:=Tryz.func38 }
def q52:FA Tryz.f52:=⟨_,by conv=>lhs;cbv⟩
def a52:=q52.1
theorem g52:GK 52 Tryz.f52 a52:={ c:=q52.2,f:=Tryz.func52 }
def q57:FA Tryz.f57:=⟨_,by conv=>lhs;cbv⟩
def a57:=q57.1
theorem g57:GK 57 Tryz.f57 a57:={ c:=q57.2,f:=Tryz.func57 }
def q59:FA Tryz.f59:=⟨_,by conv=>lhs;cbv⟩
def a59:=q59.1
theorem g59:GK 59 Tryz.f59 a59:={ c:=q59.2,f:=Tryz.func59 }
def q69:FA Tryz.f69:=⟨_,by conv=>lhs;cbv⟩
def a69:=q69.1
theorem g69:GK 69 Tryz.f69 a69:={ c:=q69.2,f:=Tryz.func69 }
def q77:FA Tryz.f77:=⟨_,by conv=>lhs;cbv⟩
def a77:=q77.1
theorem g77:GK 77 Tryz.f77 a77:={ c:=q77.2,f:=Tryz.func77 }
def q85:FA Tryz.f85:=⟨_,by conv=>lhs;cbv⟩
def a85:=q85.1
theorem g85:GK 85 Tryz.f85 a85:={ c:=q85.2,f:=Tryz.func85 }
def q94:FA Tryz.f94:=⟨_,by conv=>lhs;cbv⟩
def a94:=q94.1
theorem g94:GK 94 Tryz.f94 a94:={ c:=q94.2,f:=Tryz.func94 }
def q95:FA Tryz.f95:=⟨_,by conv=>lhs;cbv⟩
def a95:=q95.1
theorem g95:GK 95 Tryz.f95 a95:={ c:=q95.2,f:=Tryz.func95 }
def q100:FA Tryz.f100:=⟨_,by conv=>lhs;cbv⟩
def Q8:=q100.1
theorem g100:GK 100 Tryz.f100 Q8:={ c:=q100.2,f:=Tryz.func100 }
def q102:FA Tryz.f102:=⟨_,by conv=>lhs;cbv⟩
def Q6:=q102.1
theorem g102:GK 102 Tryz.f102 Q6:={ c:=q102.2,f:=Tryz.func102 }
def q107:FA Tryz.f107:=⟨_,by conv=>lhs;cbv⟩
def Q4:=q107.1
theorem g107:GK 107 Tryz.f107 Q4:={ c:=q107.2,f:=Tryz.func107 }
def q108:FA Tryz.f108:=⟨_,by conv=>lhs;cbv⟩
def Q3:=q108.1
theorem g108:GK 108 Tryz.f108 Q3:={ c:=q108.2,f:=Tryz.func108 }
def q116:FA Tryz.f116:=⟨_,by conv=>lhs;cbv⟩
def Uj:=q116.1
theorem g116:GK 116 Tryz.f116 Uj:={ c:=q116.2,f:=Tryz.func116 }
def q117:FA Tryz.f117:=⟨_,by conv=>lhs;cbv⟩
def Ui:=q117.1
theorem g117:GK 117 Tryz.f117 Ui:={ c:=q117.2,f:=Tryz.func117 }
def q126:FA Tryz.f126:=⟨_,by conv=>lhs;cbv⟩
def a126:=q126.1
theorem g126:GK 126 Tryz.f126 a126:={ c:=q126.2,f:=Tryz.func126 }
def q140:FA Tryz.f140:=⟨_,by conv=>lhs;cbv⟩
def Uc:=q140.1
theorem g140:GK 140 Tryz.f140 Uc:={ c:=q140.2,f:=Tryz.func140 }
def q141:FA Tryz.f141:=⟨_,by conv=>lhs;cbv⟩
def Z1:=q141.1
theorem g141:GK 141 Tryz.f141 Z1:={ c:=q141.2,f:=Tryz.func141 }
def q142:FA Tryz.f142:=⟨_,by conv=>lhs;cbv⟩
def Qs:=q142.1
theorem g142:GK 142 Tryz.f142 Qs:={ c:=q142.2,f:=Tryz.func142 }
def Qp:AFn:=⟨(.seq (.reg [.mk 3 (.mv (.c (.bool false))) none]) (.seq (.reg [.mk 13 (.mv (.t 0)) none,.mk 14 (.nilck (.t 12)) none,.mk 15 (.fa 5 (.t 13)) none,.mk 16 (.ldn 6 (.t 14)) none,.mk 17 (.scall 40 [(.t 15)]) none,.mk 12 (.mv (.t 16)) none,.mk 18 (.ext (.t 11) 0) none,.mk 19 (.ext (.t 11) 1) none,.mk 4 (.mv (.t 17)) none,.mk 5 (.mv (.t 18)) none]) (.seq (.reg [.mk 21 (.mv (.t 0)) none,.mk 22 (.nilck (.t 20)) none,.mk 23 (.fa 5 (.t 21)) none,.mk 24 (.ldn 6 (.t 22)) none,.mk 25 (.scall 185 [(.t 23)]) none,.mk 20 (.mv (.t 24)) none,.mk 26 (.ext (.t 19) 0) none,.mk 27 (.ext (.t 19) 1) none,.mk 6 (.mv (.t 25)) none,.mk 7 (.mv (.t 26)) none]) (.seq (.seq (.reg [.mk 28 (.mv (.t 0)) none,.mk 29 (.nilck (.t 27)) none,.mk 30 (.fa 0 (.t 28)) none,.mk 31 (.fa 0 (.t 29)) none,.mk 32 (.ld1 (.t 30)) none,.mk 33 (.scall 186 [(.t 31)]) none,.mk 34 (.un .not (.t 32)) none,.mk 35 (.mv (.t 33)) none,.mk 36 (.mv (.t 0)) (some (34,false)),.mk 37 (.nilck (.t 35)) (some (34,false)),.mk 38 (.fa 0 (.t 36)) (some (34,false)),.mk 39 (.fa 1 (.t 37)) (some (34,false)),.mk 40 (.ld1 (.t 38)) (some (34,false)),.mk 41 (.scall 186 [(.t 39)]) (some (34,false)),.mk 42 (.un .not (.t 40)) (some (34,false)),.mk 43 (.pick (.t 34) (.c (.bool true)) (.t 41)) none,.mk 44 (.mv (.t 42)) none,.mk 45 (.mv (.t 0)) (some (43,false)),.mk 46 (.nilck (.t 44)) (some (43,false)),.mk 47 (.fa 0 (.t 45)) (some (43,false)),.mk 48 (.fa 2 (.t 46)) (some (43,false)),.mk 49 (.ld1 (.t 47)) (some (43,false)),.mk 50 (.bin .lss (.t 48) (.c (.int .i64 0))) (some (43,false)),.mk 51 (.pick (.t 43) (.c (.bool true)) (.t 49)) none,.mk 52 (.mv (.t 50)) none,.mk 53 (.mv (.t 0)) (some (51,false)),.mk 54 (.nilck (.t 52)) (some (51,false)),.mk 55 (.fa 0 (.t 53)) (some (51,false)),.mk 56 (.fa 2 (.t 54)) (some (51,false)),.mk 57 (.ld1 (.t 55)) (some (51,false)),.mk 58 (.mv (.t 0)) (some (51,false)),.mk 59 (.nilck (.t 57)) (some (51,false)),.mk 60 (.fa 5 (.t 58)) (some (51,false)),.mk 61 (.fa 4 (.t 59)) (some (51,false)),.mk 62 (.ld1 (.t 60)) (some (51,false)),.mk 63 (.bin .geq (.t 56) (.t 61)) (some (51,false)),.mk 64 (.pick (.t 51) (.c (.bool true)) (.t 62)) none,.mk 65 (.mv (.t 63)) none,.mk 66 (.mv (.t 0)) (some (64,false)),.mk 67 (.nilck (.t 65)) (some (64,false)),.mk 68 (.fa 0 (.t 66)) (some (64,false)),.mk 69 (.fa 4 (.t 67)) (some (64,false)),.mk 70 (.ld1 (.t 68)) (some (64,false)),.mk 71 (.len (.t 69)) (some (64,false)),.mk 72 (.mv (.t 0)) (some (64,false)),.mk 73 (.nilck (.t 71)) (some (64,false)),.mk 74 (.fa 5 (.t 72)) (some (64,false)),.mk 75 (.fa 4 (.t 73)) (some (64,false)),.mk 76 (.ld1 (.t 74)) (some (64,false)),.mk 77 (.bin .gtr (.t 70) (.t 75)) (some (64,false)),.mk 78 (.pick (.t 64) (.c (.bool true)) (.t 76)) none,.mk 79 (.mv (.t 77)) none,.mk 80 (.mv (.t 0)) (some (78,false)),.mk 81 (.nilck (.t 79)) (some (78,false)),.mk 82 (.fa 0 (.t 80)) (some (78,false)),.mk 83 (.fa 3 (.t 81)) (some (78,false)),.mk 84 (.ld1 (.t 82)) (some (78,false)),.mk 85 (.mv (.t 0)) (some (78,false)),.mk 86 (.nilck (.t 84)) (some (78,false)),.mk 87 (.fa 5 (.t 85)) (some (78,false)),.mk 88 (.fa 4 (.t 86)) (some (78,false)),.mk 89 (.ld1 (.t 87)) (some (78,false)),.mk 90 (.bin .gtr (.t 83) (.t 88)) (some (78,false)),.mk 91 (.pick (.t 78) (.c (.bool true)) (.t 89)) none]) (.cond (.t 90) (.seq (.reg [.mk 3 (.mv (.c (.bool false))) none]) .ret) .skip)) (.seq (.reg [.mk 8 (.mv (.c (.int .i64 0))) none,.mk 9 (.mv (.c (.bool true))) none]) (.seq (.seq (.reg [.mk 92 (.mv (.t 0)) none,.mk 93 (.nilck (.t 91)) none,.mk 94 (.fa 0 (.t 92)) none,.mk 95 (.fa 4 (.t 93)) none,.mk 96 (.ld1 (.t 94)) none,.mk 97 (.len (.t 95)) none,.mk 98 (.mv (.c (.int .i64 0))) none]) (.block 0 (.loop (.seq (.reg [.mk 99 (.bin .lss (.t 97) (.t 96)) none]) (.seq (.cond (.t 98) .skip (.exit 0)) (.seq (.block 1 (.seq (.reg [.mk 100 (.mv (.t 97)) none,.mk 101 (.ixs 6 (.t 95) (.t 97)) none,.mk 102 (.ldn 6 (.t 100)) none,.mk 11 (.new 128 6 [(.int .u32 0),(.int .i64 0),(.int .i64 0),(.bool false),(.bool false),(.bool false)]) none,.mk 10 (.mv (.t 99)) none,.mk 0 (.st 6 (.t 10) (.t 101)) none]) (.seq (.seq (.reg [.mk 103 (.fa 1 (.t 10)) none,.mk 104 (.ld1 (.t 102)) none,.mk 105 (.bin .lss (.t 103) (.c (.int .i64 0))) none,.mk 106 (.mv (.t 104)) none,.mk 107 (.fa 1 (.t 10)) (some (105,false)),.mk 108 (.ld1 (.t 106)) (some (105,false)),.mk 109 (.mv (.t 3)) (some (105,false)),.mk 110 (.bin .geq (.t 107) (.t 108)) (some (105,false)),.mk 111 (.pick (.t 105) (.c (.bool true)) (.t 109)) none,.mk 112 (.mv (.t 110)) none,.mk 113 (.fa 2 (.t 10)) (some (111,false)),.mk 114 (.ld1 (.t 112)) (some (111,false)),.mk 115 (.bin .lss (.t 113) (.c (.int .i64 2))) (some (111,false)),.mk 116 (.pick (.t 111) (.c (.bool true)) (.t 114)) none,.mk 117 (.mv (.t 115)) none,.mk 118 (.fa 2 (.t 10)) (some (116,false)),.mk 119 (.ld1 (.t 117)) (some (116,false)),.mk 120 (.mv (.t 5)) (some (116,false)),.mk 121 (.bin .gtr (.t 118) (.t 119)) (some (116,false)),.mk 122 (.pick (.t 116) (.c (.bool true)) (.t 120)) none,.mk 123 (.mv (.t 121)) none,.mk 124 (.fa 0 (.t 10)) (some (122,false)),.mk 125 (.ld1 (.t 123)) (some (122,false)),.mk 126 (.bin .eql (.t 124) (.c (.int .u32 0))) (some (122,false)),.mk 127 (.pick (.t 122) (.c (.bool true)) (.t 125)) none,.mk 128 (.mv (.t 126)) none,.mk 129 (.fa 0 (.t 10)) (some (127,false)),.mk 130 (.ld1 (.t 128)) (some (127,false)),.mk 131 (.mv (.t 0)) (some (127,false)),.mk 132 (.nilck (.t 130)) (some (127,false)),.mk 133 (.fa 0 (.t 131)) (some (127,false)),.mk 134 (.fa 1 (.t 132)) (some (127,false)),.mk 135 (.ld1 (.t 133)) (some (127,false)),.mk 136 (.mv (.t 0)) (some (127,false)),.mk 137 (.nilck (.t 135)) (some (127,false)),.mk 138 (.fa 0 (.t 136)) (some (127,false)),.mk 139 (.fa 4 (.t 137)) (some (127,false)),.mk 140 (.ld1 (.t 138)) (some (127,false)),.mk 141 (.len (.t 139)) (some (127,false)),.mk 142 (.mv (.t 9)) (some (127,false)),.mk 143 (.bin .sub (.t 140) (.t 141)) (some (127,false)),.mk 144 (.cvi .u32 (.t 142)) (some (127,false)),.mk 145 (.bin .sub (.t 134) (.t 143)) (some (127,false)),.mk 146 (.bin .neq (.t 129) (.t 144)) (some (127,false)),.mk 147 (.pick (.t 127) (.c (.bool true)) (.t 145)) none,.mk 148 (.mv (.t 146)) none,.mk 149 (.fa 4 (.t 10)) (some (147,false)),.mk 150 (.ld1 (.t 148)) (some (147,false)),.mk 151 (.mv (.t 149)) (some (147,false)),.mk 152 (.mv (.t 8)) (some (150,true)),.mk 153 (.un .not (.t 151)) (some (150,true)),.mk 154 (.pick (.t 150) (.t 152) (.c (.bool false))) (some (147,false)),.mk 155 (.pick (.t 147) (.c (.bool true)) (.t 153)) none]) (.cond (.t 154) (.seq (.reg [.mk 3 (.mv (.c (.bool false))) none]) .ret) .skip)) (.seq (.reg [.mk 156 (.mv (.t 7)) none,.mk 157 (.fa 2 (.t 10)) none,.mk 158 (.ld1 (.t 156)) none,.mk 159 (.bin .add (.t 155) (.t 157)) none,.mk 8 (.mv (.t 158)) none]) (.reg [.mk 160 (.fa 4 (.t 10)) none,.mk 161 (.ld1 (.t 159)) none,.mk 9 (.mv (.t 160)) none]))))) (.reg [.mk 162 (.bin .add (.t 97) (.c (.int .i64 1))) none,.mk 98 (.mv (.t 161)) none]))))))) (.seq (.reg [.mk 163 (.mv (.t 7)) none,.mk 164 (.mv (.t 0)) none,.mk 165 (.nilck (.t 163)) none,.mk 166 (.fa 0 (.t 164)) none,.mk 167 (.fa 3 (.t 165)) none,.mk 168 (.ld1 (.t 166)) none,.mk 169 (.bin .eql (.t 162) (.t 167)) none,.mk 170 (.mv (.t 168)) none,.mk 171 (.mv (.t 0)) (some (169,true)),.mk 172 (.nilck (.t 170)) (some (169,true)),.mk 173 (.fa 0 (.t 171)) (some (169,true)),.mk 174 (.fa 1 (.t 172)) (some (169,true)),.mk 175 (.ld1 (.t 173)) (some (169,true)),.mk 176 (.cvi .i64 (.t 174)) (some (169,true)),.mk 177 (.mv (.t 0)) (some (169,true)),.mk 178 (.nilck (.t 176)) (some (169,true)),.mk 179 (.fa 0 (.t 177)) (some (169,true)),.mk 180 (.fa 4 (.t 178)) (some (169,true)),.mk 181 (.ld1 (.t 179)) (some (169,true)),.mk 182 (.len (.t 180)) (some (169,true)),.mk 183 (.bin .gtr (.t 175) (.t 181)) (some (169,true)),.mk 184 (.pick (.t 169) (.t 182) (.c (.bool false))) none,.mk 185 (.mv (.t 183)) none,.mk 186 (.mv (.t 0)) (some (184,true)),.mk 187 (.scall 187 [(.t 185)]) (some (184,true)),.mk 188 (.pick (.t 184) (.t 186) (.c (.bool false))) none,.mk 189 (.mv (.t 187)) none,.mk 190 (.mv (.t 0)) (some (188,true)),.mk 191 (.scall 188 [(.t 189)]) (some (188,true)),.mk 192 (.pick (.t 188) (.t 190) (.c (.bool false))) none,.mk 3 (.mv (.t 191)) none]) .ret))))))),[.tmp 2]⟩
theorem g149:GK 149 Tryz.f149 Qp:=⟨by kernel_rfl,Tryz.func149,by kernel_rfl⟩
def q156:FA Tryz.f156:=⟨_,by conv=>lhs;cbv⟩
def TU:=q156.1
theorem g156:GK 156 Tryz.f156 TU:={ c:=q156.2,f:=Tryz.func156 }
def q175:FA Tryz.f175:=⟨_,by conv=>lhs;cbv⟩
def TM:=q175.1
theorem g175:GK 175 Tryz.f175 TM:={ c:=q175.2,f:=Tryz.func175 }
def q188:FA Tryz.f188:=⟨_,by conv=>lhs;cbv⟩
def TJ:=q188.1
theorem g188:GK 188 Tryz.f188 TJ:={ c:=q188.2,f:=Tryz.func188 }
def q189:FA Tryz.f189:=⟨_,by conv=>lhs;cbv⟩
def TI:=q189.1
theorem g189:GK 189 Tryz.f189 TI:={ c:=q189.2,f:=Tryz.func189 }
def q194:FA Tryz.f194:=⟨_,by conv=>lhs;cbv⟩
def TE:=q194.1
theorem g194:GK 194 Tryz.f194 TE:={ c:=q194.2,f:=Tryz.func194 }
def q196:FA Tryz.f196:=⟨_,by conv=>lhs;cbv⟩
def a196:=q196.1
theorem g196:GK 196 Tryz.f196 a196:={ c:=q196.2,f:=Tryz.func196 }
def TB:AFn:=⟨(.seq (.reg [.mk 2 (.box 242 10 (.t 0)) none,.mk 3 (.mv (.c .nils)) none]) (.seq (.reg [.mk 4 (.new 3 1 [(.int .i64 0)]) none,.mk 0 (.st 1 (.t 3) (.c (.int .i64 0))) none]) (.seq (.reg [.mk 8 (.mkfn 216 [] [(.t 3)]) none,.mk 5 (.mv (.t 7)) none]) (.seq (.reg [.mk 9 (.fa 7 (.t 1)) none,.mk 10 (.ld1 (.t 8)) none,.mk 6 (.mv (.t 9)) none,.mk 7 (.mv (.c (.int .i64 0))) none]) (.seq (.seq (.reg [.mk 11 (.mv (.t 5)) none,.mk 12 (.bin .eql (.t 10) (.c (.int .i64 (-1)))) none]) (.cond (.t 11) (.reg [.mk 6 (.mv (.c (.int .i64 255))) none]) .skip)) (.seq (.seq (.reg [.mk 13 (.fa 9 (.t 1)) none,.mk 14 (.ld1 (.t 12)) none]) (.cond (.t 13) (.reg [.mk 7 (.mv (.c (.int .i64 1))) none]) .skip)) (.seq (.reg [.mk 15 (.mv (.t 4)) none,.mk 17 (.mv (.t 4)) none,.mk 18 (.fa 0 (.t 1)) none,.mk 19 (.ld1 (.t 17)) none,.mk 20 (.cvi .i64 (.t 18)) none,.mk 22 (.mv (.t 4)) none,.mk 23 (.fa 1 (.t 1)) none,.mk 24 (.ld1 (.t 22)) none,.mk 25 (.cvi .i64 (.t 23)) none,.mk 27 (.mv (.t 4)) none,.mk 28 (.fa 2 (.t 1)) none,.mk 29 (.ld1 (.t 27)) none,.mk 31 (.mv (.t 4)) none,.mk 32 (.fa 3 (.t 1)) none,.mk 33 (.ld1 (.t 31)) none,.mk 35 (.mv (.t 4)) none,.mk 36 (.fa 4 (.t 1)) none,.mk 37 (.ld1 (.t 35)) none,.mk 39 (.mv (.t 4)) none,.mk 40 (.fa 5 (.t 1)) none,.mk 41 (.ld1 (.t 39)) none,.mk 43 (.mv (.t 4)) none,.mk 44 (.fa 6 (.t 1)) none,.mk 45 (.ld1 (.t 43)) none,.mk 47 (.mv (.t 4)) none,.mk 48 (.mv (.t 5)) none,.mk 50 (.mv (.t 4)) none,.mk 51 (.fa 8 (.t 1)) none,.mk 52 (.ld1 (.t 50)) none,.mk 54 (.mv (.t 4)) none,.mk 55 (.mv (.t 6)) none,.mk 16 (.call (.t 14) [(.c (.int .i64 76)),(.c (.int .i64 1))]) none,.chk 18 (.ld1 (.t 17)) none,.chk 23 (.ld1 (.t 22)) none,.chk 28 (.ld1 (.t 27)) none,.chk 32 (.ld1 (.t 31)) none,.chk 36 (.ld1 (.t 35)) none,.chk 40 (.ld1 (.t 39)) none,.chk 44 (.ld1 (.t 43)) none,.chk 51 (.ld1 (.t 50)) none,.mk 21 (.call (.t 16) [(.t 19),(.c (.int .i64 4))]) none,.chk 23 (.ld1 (.t 22)) none,.chk 28 (.ld1 (.t 27)) none,.chk 32 (.ld1 (.t 31)) none,.chk 36 (.ld1 (.t 35)) none,.chk 40 (.ld1 (.t 39)) none,.chk 44 (.ld1 (.t 43)) none,.chk 51 (.ld1 (.t 50)) none,.mk 26 (.call (.t 21) [(.t 24),(.c (.int .i64 4))]) none,.chk 28 (.ld1 (.t 27)) none,.chk 32 (.ld1 (.t 31)) none,.chk 36 (.ld1 (.t 35)) none,.chk 40 (.ld1 (.t 39)) none,.chk 44 (.ld1 (.t 43)) none,.chk 51 (.ld1 (.t 50)) none,.mk 30 (.call (.t 26) [(.t 28),(.c (.int .i64 1))]) none,.chk 32 (.ld1 (.t 31)) none,.chk 36 (.ld1 (.t 35)) none,.chk 40 (.ld1 (.t 39)) none,.chk 44 (.ld1 (.t 43)) none,.chk 51 (.ld1 (.t 50)) none,.mk 34 (.call (.t 30) [(.t 32),(.c (.int .i64 1))]) none,.chk 36 (.ld1 (.t 35)) none,.chk 40 (.ld1 (.t 39)) none,.chk 44 (.ld1 (.t 43)) none,.chk 51 (.ld1 (.t 50)) none,.mk 38 (.call (.t 34) [(.t 36),(.c (.int .i64 1))]) none,.chk 40 (.ld1 (.t 39)) none,.chk 44 (.ld1 (.t 43)) none,.chk 51 (.ld1 (.t 50)) none,.mk 42 (.call (.t 38) [(.t 40),(.c (.int .i64 1))]) none,.chk 44 (.ld1 (.t 43)) none,.chk 51 (.ld1 (.t 50)) none,.mk 46 (.call (.t 42) [(.t 44),(.c (.int .i64 1))]) none,.chk 51 (.ld1 (.t 50)) none,.mk 49 (.call (.t 46) [(.t 47),(.c (.int .i64 1))]) none,.chk 51 (.ld1 (.t 50)) none,.mk 53 (.call (.t 49) [(.t 51),(.c (.int .i64 1))]) none,.mk 56 (.call (.t 53) [(.t 54),(.c (.int .i64 1))]) none,.mk 57 (.bsl 259 3 11 [(.int .i64 0),(.int .i64 0),(.int .i64 0),(.int .i64 0),(.int .i64 0),(.int .i64 0),(.int .i64 0),(.int .i64 0),(.int .i64 0),(.int .i64 0),(.int .i64 0),(.int .i64 0),(.int .i64 0),(.int .i64 0),(.int .i64 0),(.int .i64 0),(.int .i64 0),(.int .i64 0),(.int .i64 0),(.int .i64 0),(.int .i64 0),(.int .i64 0),(.int .i64 0),(.int .i64 0),(.int .i64 0),(.int .i64 0),(.int .i64 0),(.int .i64 0),(.int .i64 0),(.int .i64 0),(.int .i64 0),(.int .i64 0),(.int .i64 0)] [(0,3,(.t 15)),(3,3,(.t 20)),(6,3,(.t 25)),(9,3,(.t 29)),(12,3,(.t 33)),(15,3,(.t 37)),(18,3,(.t 41)),(21,3,(.t 45)),(24,3,(.t 48)),(27,3,(.t 52)),(30,3,(.t 55))]) none,.mk 3 (.mv (.t 56)) none]) .ret))))))),[.tmp 2]⟩
theorem g205:GK 205 Tryz.f205 TB:=⟨by kernel_rfl,Tryz.func205,by kernel_rfl⟩
def q213:FA Tryz.f213:=⟨_,by conv=>lhs;cbv⟩
def PV:=q213.1
theorem g213:GK 213 Tryz.f213 PV:={ c:=q213.2,f:=Tryz.func213 }
def q217:FA Tryz.f217:=⟨_,by conv=>lhs;cbv⟩
def PQ:=q217.1
theorem g217:GK 217 Tryz.f217 PQ:={ c:=q217.2,f:=Tryz.func217 }
def q218:FA Tryz.f218:=⟨_,by conv=>lhs;cbv⟩
def PP:=q218.1
theorem g218:GK 218 Tryz.f218 PP:={ c:=q218.2,f:=Tryz.func218 }
end X
end
end Go.AM
