/- Contracts of functions over the abstract machine. No conditions. -/
import Derived.Test.YtblggmblcjoalaaGreatXN
set_option maxRecDepth 100000
namespace Go.AM
noncomputable section
open Go.Proofs
namespace X
def q19:FA Tryz.f19:=⟨_,by conv=>lhs;cbv⟩
def a19:=q19.1
theorem g19:GK 19 Tryz.f19 a19:={ c:=q19.2,f:=Tryz.func19 }
def q22:FA Tryz.f22:=⟨_,by conv=>lhs;cbv⟩
def a22:=q22.1
theorem g22:GK 22 Tryz.f22 a22:={ c:=q22.2,f:=Tryz.func22 }
def q24:FA Tryz.f24:=⟨_,by conv=>lhs;cbv⟩
def a24:=q24.1
theorem g24:GK 24 Tryz.f24 a24:={ c:=q24.2,f:=Tryz.func24 }
def q40:FA Tryz.f40:=⟨_,by conv=>lhs;cbv⟩
def a40:=q40.1
theorem g40:GK 40 Tryz.f40 a40:={ c:=q40.2,f:=Tryz.func40 }
def q55:FA Tryz.f55:=⟨_,by conv=>lhs;cbv⟩
def a55:=q55.1
theorem g55:GK 55 Tryz.f55 a55:={ c:=q55.2,f:=Tryz.func55 }
def q56:FA Tryz.f56:=⟨_,by conv=>lhs;cbv⟩
def a56:=q56.1
theorem g56:GK 56 Tryz.f56 a56:={ c:=q56.2,f:=Tryz.func56 }
def q58:FA Tryz.f58:=⟨_,by conv=>lhs;cbv⟩
def a58:=q58.1
theorem g58:GK 58 Tryz.f58 a58:={ c:=q58.2,f:=Tryz.func58 }
def q60:FA Tryz.f60:=⟨_,by conv=>lhs;cbv⟩
def a60:=q60.1
theorem g60:GK 60 Tryz.f60 a60:={ c:=q60.2,f:=Tryz.func60 }
def q75:FA Tryz.f75:=⟨_,by conv=>lhs;cbv⟩
def a75:=q75.1
theorem g75:GK 75 Tryz.f75 a75:={ c:=q75.2,f:=Tryz.func75 }
def q84:FA Tryz.f84:=⟨_,by conv=>lhs;cbv⟩
def a84:=q84.1
theorem g84:GK 84 Tryz.f84 a84:={ c:=q84.2,f:=Tryz.func84 }
def q97:FA Tryz.f97:=⟨_,by conv=>lhs;cbv⟩
def a97:=q97.1
theorem g97:GK 97 Tryz.f97 a97:={ c:=q97.2,f:=Tryz.func97 }
def q119:FA Tryz.f119:=⟨_,by conv=>lhs;cbv⟩
def a119:=q119.1
theorem g119:GK 119 Tryz.f119 a119:={ c:=q119.2,f:=Tryz.func119 }
def q122:FA Tryz.f122:=⟨_,by conv=>lhs;cbv⟩
def a122:=q122.1
theorem g122:GK 122 Tryz.f122 a122:={ c:=q122.2,f:=Tryz.func122 }
def q151:FA Tryz.f151:=⟨_,by conv=>lhs;cbv⟩
def a151:=q151.1
theorem g151:GK 151 Tryz.f151 a151:={ c:=q151.2,f:=Tryz.func151 }
def q153:FA Tryz.f153:=⟨_,by conv=>lhs;cbv⟩
def a153:=q153.1
theorem g153:GK 153 Tryz.f153 a153:={ c:=q153.2,f:=Tryz.func153 }
def q155:FA Tryz.f155:=⟨_,by conv=>lhs;cbv⟩
def a155:=q155.1
theorem g155:GK 155 Tryz.f155 a155:={ c:=q155.2,f:=Tryz.func155 }
def q165:FA Tryz.f165:=⟨_,by conv=>lhs;cbv⟩
def a165:=q165.1
theorem g165:GK 165 Tryz.f165 a165:={ c:=q165.2,f:=Tryz.func165 }
def q167:FA Tryz.f167:=⟨_,by conv=>lhs;cbv⟩
def a167:=q167.1
theorem g167:GK 167 Tryz.f167 a167:={ c:=q167.2,f:=Tryz.func167 }
def q173:FA Tryz.f173:=⟨_,by conv=>lhs;cbv⟩
def a173:=q173.1
theorem g173:GK 173 Tryz.f173 a173:={ c:=q173.2,f:=Tryz.func173 }
def q182:FA Tryz.f182:=⟨_,by conv=>lhs;cbv⟩
def a182:=q182.1
theorem g182:GK 182 Tryz.f182 a182:={ c:=q182.2,f:=Tryz.func182 }
def q185:FA Tryz.f185:=⟨_,by conv=>lhs;cbv⟩
def a185:=q185.1
theorem g185:GK 185 Tryz.f185 a185:={ c:=q185.2,f:=Tryz.func185 }
def q190:FA Tryz.f190:=⟨_,by conv=>lhs;cbv⟩
def a190:=q190.1
theorem g190:GK 190 Tryz.f190 a190:={ c:=q190.2,f:=Tryz.func190 }
def q209:FA Tryz.f209:=⟨_,by conv=>lhs;cbv⟩
def a209:=q209.1
theorem g209:GK 209 Tryz.f209 a209:={ c:=q209.2,f:=Tryz.func209 }
def q215:FA Tryz.f215:=⟨_,by conv=>lhs;cbv⟩
def a215:=q215.1
theorem g215:GK 215 Tryz.f215 a215:={ c:=q215.2,f:=Tryz.func215 }
def q216:FA Tryz.f216:=⟨_,by conv=>lhs;cbv⟩
def a216:=q216.1
theorem g216:GK 216 Tryz.f216 a216:={ c:=q216.2,f:=Tryz.func216 }
def q217:FA Tryz.f217:=⟨_,by conv=>lhs;cbv⟩
def a217:=q217.1
theorem g217:GK 217 Tryz.f217 a217:={ c:=q217.2,f:=Tryz.func217 }
def q237:FA Tryz.f237:=⟨_,by conv=>lhs;cbv⟩
def a237:=q237.1
theorem g237:GK 237 Tryz.f237 a237:={ c:=q237.2,f:=Tryz.func237 }
def q242:FA Tryz.f242:=⟨_,by conv=>lhs;cbv⟩
def a242:=q242.1
theorem g242:GK 242 Tryz.f242 a242:={ c:=q242.2,f:=Tryz.func242 }
def a246:AFn:=⟨(.seq (.reg [.mk 3 (.mv (.c (.bool false))) none]) (.seq (.reg [.mk 13 (.mv (.t 0)) none,.mk 14 (.nilck (.t 12)) none,.mk 15 (.fa 5 (.t 13)) none,.mk 16 (.ldn 6 (.t 14)) none,.mk 17 (.scall 77 [(.t 15)]) none,.mk 12 (.mv (.t 16)) none,.mk 18 (.ext (.t 11) 0) none,.mk 19 (.ext (.t 11) 1) none,.mk 4 (.mv (.t 17)) none,.mk 5 (.mv (.t 18)) none]) (.seq (.reg [.mk 21 (.mv (.t 0)) none,.mk 22 (.nilck (.t 20)) none,.mk 23 (.fa 5 (.t 21)) none,.mk 24 (.ldn 6 (.t 22)) none,.mk 25 (.scall 273 [(.t 23)]) none,.mk 20 (.mv (.t 24)) none,.mk 26 (.ext (.t 19) 0) none,.mk 27 (.ext (.t 19) 1) none,.mk 6 (.mv (.t 25)) none,.mk 7 (.mv (.t 26)) none]) (.seq (.seq (.reg [.mk 28 (.mv (.t 0)) none,.mk 29 (.nilck (.t 27)) none,.mk 30 (.fa 0 (.t 28)) none,.mk 31 (.fa 0 (.t 29)) none,.mk 32 (.ld1 (.t 30)) none,.mk 33 (.scall 292 [(.t 31)]) none,.mk 34 (.un .not (.t 32)) none,.mk 35 (.mv (.t 33)) none,.mk 36 (.mv (.t 0)) (some (34,false)),.mk 37 (.nilck (.t 35)) (some (34,false)),.mk 38 (.fa 0 (.t 36)) (some (34,false)),.mk 39 (.fa 1 (.t 37)) (some (34,false)),.mk 40 (.ld1 (.t 38)) (some (34,false)),.mk 41 (.scall 292 [(.t 39)]) (some (34,false)),.mk 42 (.un .not (.t 40)) (some (34,false)),.mk 43 (.pick (.t 34) (.c (.bool true)) (.t 41)) none,.mk 44 (.mv (.t 42)) none,.mk 45 (.mv (.t 0)) (some (43,false)),.mk 46 (.nilck (.t 44)) (some (43,false)),.mk 47 (.fa 0 (.t 45)) (some (43,false)),.mk 48 (.fa 2 (.t 46)) (some (43,false)),.mk 49 (.ld1 (.t 47)) (some (43,false)),.mk 50 (.bin .lss (.t 48) (.c (.int .i64 0))) (some (43,false)),.mk 51 (.pick (.t 43) (.c (.bool true)) (.t 49)) none,.mk 52 (.mv (.t 50)) none,.mk 53 (.mv (.t 0)) (some (51,false)),.mk 54 (.nilck (.t 52)) (some (51,false)),.mk 55 (.fa 0 (.t 53)) (some (51,false)),.mk 56 (.fa 2 (.t 54)) (some (51,false)),.mk 57 (.ld1 (.t 55)) (some (51,false)),.mk 58 (.mv (.t 0)) (some (51,false)),.mk 59 (.nilck (.t 57)) (some (51,false)),.mk 60 (.fa 5 (.t 58)) (some (51,false)),.mk 61 (.fa 4 (.t 59)) (some (51,false)),.mk 62 (.ld1 (.t 60)) (some (51,false)),.mk 63 (.bin .geq (.t 56) (.t 61)) (some (51,false)),.mk 64 (.pick (.t 51) (.c (.bool true)) (.t 62)) none,.mk 65 (.mv (.t 63)) none,.mk 66 (.mv (.t 0)) (some (64,false)),.mk 67 (.nilck (.t 65)) (some (64,false)),.mk 68 (.fa 0 (.t 66)) (some (64,false)),.mk 69 (.fa 4 (.t 67)) (some (64,false)),.mk 70 (.ld1 (.t 68)) (some (64,false)),.mk 71 (.len (.t 69)) (some (64,false)),.mk 72 (.mv (.t 0)) (some (64,false)),.mk 73 (.nilck (.t 71)) (some (64,false)),.mk 74 (.fa 5 (.t 72)) (some (64,false)),.mk 75 (.fa 4 (.t 73)) (some (64,false)),.mk 76 (.ld1 (.t 74)) (some (64,false)),.mk 77 (.bin .gtr (.t 70) (.t 75)) (some (64,false)),.mk 78 (.pick (.t 64) (.c (.bool true)) (.t 76)) none,.mk 79 (.mv (.t 77)) none,.mk 80 (.mv (.t 0)) (some (78,false)),.mk 81 (.nilck (.t 79)) (some (78,false)),.mk 82 (.fa 0 (.t 80)) (some (78,false)),.mk 83 (.fa 3 (.t 81)) (some (78,false)),.mk 84 (.ld1 (.t 82)) (some (78,false)),.mk 85 (.mv (.t 0)) (some (78,false)),.mk 86 (.nilck (.t 84)) (some (78,false)),.mk 87 (.fa 5 (.t 85)) (some (78,false)),.mk 88 (.fa 4 (.t 86)) (some (78,false)),.mk 89 (.ld1 (.t 87)) (some (78,false)),.mk 90 (.bin .gtr (.t 83) (.t 88)) (some (78,false)),.mk 91 (.pick (.t 78) (.c (.bool true)) (.t 89)) none]) (.cond (.t 90) (.seq (.reg [.mk 3 (.mv (.c (.bool false))) none]) .ret) .skip)) (.seq (.reg [.mk 8 (.mv (.c (.int .i64 0))) none,.mk 9 (.mv (.c (.bool true))) none]) (.seq (.seq (.reg [.mk 92 (.mv (.t 0)) none,.mk 93 (.nilck (.t 91)) none,.mk 94 (.fa 0 (.t 92)) none,.mk 95 (.fa 4 (.t 93)) none,.mk 96 (.ld1 (.t 94)) none,.mk 97 (.len (.t 95)) none,.mk 98 (.mv (.c (.int .i64 0))) none]) (.block 0 (.loop (.seq (.reg [.mk 99 (.bin .lss (.t 97) (.t 96)) none]) (.seq (.cond (.t 98) .skip (.exit 0)) (.seq (.block 1 (.seq (.reg [.mk 100 (.mv (.t 97)) none,.mk 101 (.ixs 6 (.t 95) (.t 97)) none,.mk 102 (.ldn 6 (.t 100)) none,.mk 11 (.new 186 6 [(.int .u32 0),(.int .i64 0),(.int .i64 0),(.bool false),(.bool false),(.bool false)]) none,.mk 10 (.mv (.t 99)) none,.mk 0 (.st 6 (.t 10) (.t 101)) none]) (.seq (.seq (.reg [.mk 103 (.fa 1 (.t 10)) none,.mk 104 (.ld1 (.t 102)) none,.mk 105 (.bin .lss (.t 103) (.c (.int .i64 0))) none,.mk 106 (.mv (.t 104)) none,.mk 107 (.fa 1 (.t 10)) (some (105,false)),.mk 108 (.ld1 (.t 106)) (some (105,false)),.mk 109 (.mv (.t 3)) (some (105,false)),.mk 110 (.bin .geq (.t 107) (.t 108)) (some (105,false)),.mk 111 (.pick (.t 105) (.c (.bool true)) (.t 109)) none,.mk 112 (.mv (.t 110)) none,.mk 113 (.fa 2 (.t 10)) (some (111,false)),.mk 114 (.ld1 (.t 112)) (some (111,false)),.mk 115 (.bin .lss (.t 113) (.c (.int .i64 2))) (some (111,false)),.mk 116 (.pick (.t 111) (.c (.bool true)) (.t 114)) none,.mk 117 (.mv (.t 115)) none,.mk 118 (.fa 2 (.t 10)) (some (116,false)),.mk 119 (.ld1 (.t 117)) (some (116,false)),.mk 120 (.mv (.t 5)) (some (116,false)),.mk 121 (.bin .gtr (.t 118) (.t 119)) (some (116,false)),.mk 122 (.pick (.t 116) (.c (.bool true)) (.t 120)) none,.mk 123 (.mv (.t 121)) none,.mk 124 (.fa 0 (.t 10)) (some (122,false)),.mk 125 (.ld1 (.t 123)) (some (122,false)),.mk 126 (.bin .eql (.t 124) (.c (.int .u32 0))) (some (122,false)),.mk 127 (.pick (.t 122) (.c (.bool true)) (.t 125)) none,.mk 128 (.mv (.t 126)) none,.mk 129 (.fa 0 (.t 10)) (some (127,false)),.mk 130 (.ld1 (.t 128)) (some (127,false)),.mk 131 (.mv (.t 0)) (some (127,false)),.mk 132 (.nilck (.t 130)) (some (127,false)),.mk 133 (.fa 0 (.t 131)) (some (127,false)),.mk 134 (.fa 1 (.t 132)) (some (127,false)),.mk 135 (.ld1 (.t 133)) (some (127,false)),.mk 136 (.mv (.t 0)) (some (127,false)),.mk 137 (.nilck (.t 135)) (some (127,false)),.mk 138 (.fa 0 (.t 136)) (some (127,false)),.mk 139 (.fa 4 (.t 137)) (some (127,false)),.mk 140 (.ld1 (.t 138)) (some (127,false)),.mk 141 (.len (.t 139)) (some (127,false)),.mk 142 (.mv (.t 9)) (some (127,false)),.mk 143 (.bin .sub (.t 140) (.t 141)) (some (127,false)),.mk 144 (.cvi .u32 (.t 142)) (some (127,false)),.mk 145 (.bin .sub (.t 134) (.t 143)) (some (127,false)),.mk 146 (.bin .neq (.t 129) (.t 144)) (some (127,false)),.mk 147 (.pick (.t 127) (.c (.bool true)) (.t 145)) none,.mk 148 (.mv (.t 146)) none,.mk 149 (.fa 4 (.t 10)) (some (147,false)),.mk 150 (.ld1 (.t 148)) (some (147,false)),.mk 151 (.mv (.t 149)) (some (147,false)),.mk 152 (.mv (.t 8)) (some (150,true)),.mk 153 (.un .not (.t 151)) (some (150,true)),.mk 154 (.pick (.t 150) (.t 152) (.c (.bool false))) (some (147,false)),.mk 155 (.pick (.t 147) (.c (.bool true)) (.t 153)) none]) (.cond (.t 154) (.seq (.reg [.mk 3 (.mv (.c (.bool false))) none]) .ret) .skip)) (.seq (.reg [.mk 156 (.mv (.t 7)) none,.mk 157 (.fa 2 (.t 10)) none,.mk 158 (.ld1 (.t 156)) none,.mk 159 (.bin .add (.t 155) (.t 157)) none,.mk 8 (.mv (.t 158)) none]) (.reg [.mk 160 (.fa 4 (.t 10)) none,.mk 161 (.ld1 (.t 159)) none,.mk 9 (.mv (.t 160)) none]))))) (.reg [.mk 162 (.bin .add (.t 97) (.c (.int .i64 1))) none,.mk 98 (.mv (.t 161)) none]))))))) (.seq (.reg [.mk 163 (.mv (.t 7)) none,.mk 164 (.mv (.t 0)) none,.mk 165 (.nilck (.t 163)) none,.mk 166 (.fa 0 (.t 164)) none,.mk 167 (.fa 3 (.t 165)) none,.mk 168 (.ld1 (.t 166)) none,.mk 169 (.bin .eql (.t 162) (.t 167)) none,.mk 170 (.mv (.t 168)) none,.mk 171 (.mv (.t 0)) (some (169,true)),.mk 172 (.nilck (.t 170)) (some (169,true)),.mk 173 (.fa 0 (.t 171)) (some (169,true)),.mk 174 (.fa 1 (.t 172)) (some (169,true)),.mk 175 (.ld1 (.t 173)) (some (169,true)),.mk 176 (.cvi .i64 (.t 174)) (some (169,true)),.mk 177 (.mv (.t 0)) (some (169,true)),.mk 178 (.nilck (.t 176)) (some (169,true)),.mk 179 (.fa 0 (.t 177)) (some (169,true)),.mk 180 (.fa 4 (.t 178)) (some (169,true)),.mk 181 (.ld1 (.t 179)) (some (169,true)),.mk 182 (.len (.t 180)) (some (169,true)),.mk 183 (.bin .gtr (.t 175) (.t 181)) (some (169,true)),.mk 184 (.pick (.t 169) (.t 182) (.c (.bool false))) none,.mk 185 (.mv (.t 183)) none,.mk 186 (.mv (.t 0)) (some (184,true)),.mk 187 (.scall 293 [(.t 185)]) (some (184,true)),.mk 188 (.pick (.t 184) (.t 186) (.c (.bool false))) none,.mk 189 (.mv (.t 187)) none,.mk 190 (.mv (.t 0)) (some (188,true)),.mk 191 (.scall 213 [(.t 189)]) (some (188,true)),.mk 192 (.pick (.t 188) (.t 190) (.c (.bool false))) none,.mk 3 (.mv (.t 191)) none]) .ret))))))),[.tmp 2]⟩
theorem g246:GK 246 Tryz.f246 a246:=⟨by kernel_rfl,Tryz.func246,by kernel_rfl⟩
def q253:FA Tryz.f253:=⟨_,by conv=>lhs;cbv⟩
def a253:=q253.1
theorem g253:GK 253 Tryz.f253 a253:={ c:=q253.2,f:=Tryz.func253 }
def q267:FA Tryz.f267:=⟨_,by conv=>lhs;cbv⟩
def a267:=q267.1
theorem g267:GK 267 Tryz.f267 a267:={ c:=q267.2,f:=Tryz.func267 }
def q275:FA Tryz.f275:=⟨_,by conv=>lhs;cbv⟩
def a275:=q275.1
theorem g275:GK 275 Tryz.f275 a275:={ c:=q275.2,f:=Tryz.func275 }
def q276:FA Tryz.f276:=⟨_,by conv=>lhs;cbv⟩
def a276:=q276.1
theorem g276:GK 276 Tryz.f276 a276:={ c:=q276.2,f:=Tryz.func276 }
def q289:FA Tryz.f289:=⟨_,by conv=>lhs;cbv⟩
def a289:=q289.1
theorem g289:GK 289 Tryz.f289 a289:={ c:=q289.2,f:=Tryz.func289 }
def q295:FA Tryz.f295:=⟨_,by conv=>lhs;cbv⟩
def a295:=q295.1
theorem g295:GK 295 Tryz.f295 a295:={ c:=q295.2,f:=Tryz.func295 }
def q298:FA Tryz.f298:=⟨_,by conv=>lhs;cbv⟩
def a298:=q298.1
theorem g298:GK 298 Tryz.f298 a298:={ c:=q298.2,f:=Tryz.func298 }
end X
end
end Go.AM
