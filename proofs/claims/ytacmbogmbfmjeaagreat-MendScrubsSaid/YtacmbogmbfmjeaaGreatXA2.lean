/-
 Functions of the program as the abstract machine reads them, and what is stated of them, checked by the kernel. No conditions.
-/
import Derived.Test.YtacmbogmbfmjeaaGreatXN
set_option linter.unusedVariables false
set_option linter.unusedSimpArgs false
set_option linter.unnecessarySimpa false
set_option maxRecDepth 100000
namespace Go.AM
noncomputable section
open Go.Proofs
namespace X
def q24:FA Tryz.f24:=⟨_,by conv=>lhs;cbv⟩
def a24:=q24.1
theorem g24:GK 24 Tryz.f24 a24:={ c:=q24.2,f:=Tryz.func24 }
def a25:AFn:=⟨(.seq (.reg [.mk 5 (.mv (.c (.bool false))) none]) (.seq (.seq (.reg [.mk 7 (.mv (.t 0)) none,.mk 8 (.len (.t 6)) none,.mk 9 (.mv (.t 1)) none,.mk 10 (.len (.t 8)) none,.mk 11 (.bin .neq (.t 7) (.t 9)) none]) (.cond (.t 10) (.seq (.reg [.mk 5 (.mv (.c (.bool false))) none]) .ret) .skip)) (.seq (.seq (.reg [.mk 6 (.mv (.c (.int .i64 0))) none]) (.block 0 (.loop (.seq (.seq (.reg [.mk 12 (.mv (.t 5)) none,.mk 13 (.mv (.t 0)) none,.mk 14 (.len (.t 12)) none,.mk 15 (.bin .lss (.t 11) (.t 13)) none]) (.cond (.t 14) .skip (.exit 0))) (.seq (.block 1 (.seq (.reg [.mk 18 (.mv (.t 0)) none,.mk 19 (.mv (.t 5)) none,.mk 20 (.ixs 4 (.t 17) (.t 18)) none,.mk 21 (.fa 0 (.t 19)) none,.mk 22 (.ld1 (.t 20)) none,.mk 23 (.mv (.t 1)) none,.mk 24 (.mv (.t 5)) none,.mk 25 (.ixs 4 (.t 22) (.t 23)) none,.mk 26 (.fa 0 (.t 24)) none,.mk 27 (.ld1 (.t 25)) none,.mk 28 (.bin .neq (.t 21) (.t 26)) none,.mk 29 (.mv (.t 27)) none,.mk 30 (.mv (.t 0)) (some (28,false)),.mk 31 (.mv (.t 5)) (some (28,false)),.mk 32 (.ixs 4 (.t 29) (.t 30)) (some (28,false)),.mk 33 (.fa 1 (.t 31)) (some (28,false)),.mk 34 (.ld1 (.t 32)) (some (28,false)),.mk 35 (.mv (.t 1)) (some (28,false)),.mk 36 (.mv (.t 5)) (some (28,false)),.mk 37 (.ixs 4 (.t 34) (.t 35)) (some (28,false)),.mk 38 (.fa 1 (.t 36)) (some (28,false)),.mk 39 (.ld1 (.t 37)) (some (28,false)),.mk 40 (.bin .neq (.t 33) (.t 38)) (some (28,false)),.mk 41 (.pick (.t 28) (.c (.bool true)) (.t 39)) none,.mk 42 (.mv (.t 40)) none,.mk 43 (.mv (.t 0)) (some (41,false)),.mk 44 (.mv (.t 5)) (some (41,false)),.mk 45 (.ixs 4 (.t 42) (.t 43)) (some (41,false)),.mk 46 (.fa 2 (.t 44)) (some (41,false)),.mk 47 (.ld1 (.t 45)) (some (41,false)),.mk 48 (.mv (.t 1)) (some (41,false)),.mk 49 (.mv (.t 5)) (some (41,false)),.mk 50 (.ixs 4 (.t 47) (.t 48)) (some (41,false)),.mk 51 (.fa 2 (.t 49)) (some (41,false)),.mk 52 (.ld1 (.t 50)) (some (41,false)),.mk 53 (.bin .neq (.t 46) (.t 51)) (some (41,false)),.mk 54 (.pick (.t 41) (.c (.bool true)) (.t 52)) none,.mk 55 (.mv (.t 53)) none,.mk 56 (.mv (.t 0)) (some (54,false)),.mk 57 (.mv (.t 5)) (some (54,false)),.mk 58 (.ixs 4 (.t 55) (.t 56)) (some (54,false)),.mk 59 (.fa 3 (.t 57)) (some (54,false)),.mk 60 (.ld1 (.t 58)) (some (54,false)),.mk 61 (.b2s (.t 59)) (some (54,false)),.mk 62 (.mv (.t 1)) (some (54,false)),.mk 63 (.mv (.t 5)) (some (54,false)),.mk 64 (.ixs 4 (.t 61) (.t 62)) (some (54,false)),.mk 65 (.fa 3 (.t 63)) (some (54,false)),.mk 66 (.ld1 (.t 64)) (some (54,false)),.mk 67 (.b2s (.t 65)) (some (54,false)),.mk 68 (.bin .neq (.t 60) (.t 66)) (some (54,false)),.mk 69 (.pick (.t 54) (.c (.bool true)) (.t 67)) none]) (.cond (.t 68) (.seq (.reg [.mk 5 (.mv (.c (.bool false))) none]) .ret) .skip))) (.reg [.mk 16 (.mv (.t 5)) none,.mk 17 (.bin .add (.t 15) (.c (.int .i64 1))) none,.mk 6 (.mv (.t 16)) none])))))) (.seq (.reg [.mk 5 (.mv (.c (.bool true))) none]) .ret)))),[.tmp 4]⟩
theorem g25:GK 25 Tryz.f25 a25:=⟨by kernel_rfl,Tryz.func25,by kernel_rfl⟩
def q29:FA Tryz.f29:=⟨_,by conv=>lhs;cbv⟩
def a29:=q29.1
theorem g29:GK 29 Tryz.f29 a29:={ c:=q29.2,f:=Tryz.func29 }
def q33:FA Tryz.f33:=⟨_,by conv=>lhs;cbv⟩
def a33:=q33.1
theorem g33:GK 33 Tryz.f33 a33:={ c:=q33.2,f:=Tryz.func33 }
def q35:FA Tryz.f35:=⟨_,by conv=>lhs;cbv⟩
def a35:=q35.1
theorem g35:GK 35 Tryz.f35 a35:={ c:=q35.2,f:=Tryz.func35 }
def q40:FA Tryz.f40:=⟨_,by conv=>lhs;cbv⟩
def Lq:=q40.1
theorem g40:GK 40 Tryz.f40 Lq:={ c:=q40.2,f:=Tryz.func40 }
def q41:FA Tryz.f41:=⟨_,by conv=>lhs;cbv⟩
def a41:=q41.1
theorem g41:GK 41 Tryz.f41 a41:={ c:=q41.2,f:=Tryz.func41 }
def q49:FA Tryz.f49:=⟨_,by conv=>lhs;cbv⟩
def a49:=q49.1
theorem g49:GK 49 Tryz.f49 a49:={ c:=q49.2,f:=Tryz.func49 }
def q50:FA Tryz.f50:=⟨_,by conv=>lhs;cbv⟩
def a50:=q50.1
theorem g50:GK 50 Tryz.f50 a50:={ c:=q50.2,f:=Tryz.func50 }
def q52:FA Tryz.f52:=⟨_,by conv=>lhs;cbv⟩
def a52:=q52.1
theorem g52:GK 52 Tryz.f52 a52:={ c:=q52.2,f:=Tryz.func52 }
def q57:FA Tryz.f57:=⟨_,by conv=>lhs;cbv⟩
def a57:=q57.1
theorem g57:GK 57 Tryz.f57 a57:={ c:=q57.2,f:=Tryz.func57 }
def q67:FA Tryz.f67:=⟨_,by conv=>lhs;cbv⟩
def a67:=q67.1
theorem g67:GK 67 Tryz.f67 a67:={ c:=q67.2,f:=Tryz.func67 }
def q76:FA Tryz.f76:=⟨_,by conv=>lhs;cbv⟩
def a76:=q76.1
theorem g76:GK 76 Tryz.f76 a76:={ c:=q76.2,f:=Tryz.func76 }
def q91:FA Tryz.f91:=⟨_,by conv=>lhs;cbv⟩
def Lj:=q91.1
theorem g91:GK 91 Tryz.f91 Lj:={ c:=q91.2,f:=Tryz.func91 }
def q101:FA Tryz.f101:=⟨_,by conv=>lhs;cbv⟩
def N9:=q101.1
theorem g101:GK 101 Tryz.f101 N9:={ c:=q101.2,f:=Tryz.func101 }
def q111:FA Tryz.f111:=⟨_,by conv=>lhs;cbv⟩
def N3:=q111.1
theorem g111:GK 111 Tryz.f111 N3:={ c:=q111.2,f:=Tryz.func111 }
def q128:FA Tryz.f128:=⟨_,by conv=>lhs;cbv⟩
def Lb:=q128.1
theorem g128:GK 128 Tryz.f128 Lb:={ c:=q128.2,f:=Tryz.func128 }
def q130:FA Tryz.f130:=⟨_,by conv=>lhs;cbv⟩
def Ny:=q130.1
theorem g130:GK 130 Tryz.f130 Ny:={ c:=q130.2,f:=Tryz.func130 }
def q145:FA Tryz.f145:=⟨_,by conv=>lhs;cbv⟩
def La:=q145.1
theorem g145:GK 145 Tryz.f145 La:={ c:=q145.2,f:=Tryz.func145 }
def q146:FA Tryz.f146:=⟨_,by conv=>lhs;cbv⟩
def QJ:=q146.1
theorem g146:GK 146 Tryz.f146 QJ:={ c:=q146.2,f:=Tryz.func146 }
def q147:FA Tryz.f147:=⟨_,by conv=>lhs;cbv⟩
def Ns:=q147.1
theorem g147:GK 147 Tryz.f147 Ns:={ c:=q147.2,f:=Tryz.func147 }
def q150:FA Tryz.f150:=⟨_,by conv=>lhs;cbv⟩
def QH:=q150.1
theorem g150:GK 150 Tryz.f150 QH:={ c:=q150.2,f:=Tryz.func150 }
def q157:FA Tryz.f157:=⟨_,by conv=>lhs;cbv⟩
def QC:=q157.1
theorem g157:GK 157 Tryz.f157 QC:={ c:=q157.2,f:=Tryz.func157 }
def q158:FA Tryz.f158:=⟨_,by conv=>lhs;cbv⟩
def QB:=q158.1
theorem g158:GK 158 Tryz.f158 QB:={ c:=q158.2,f:=Tryz.func158 }
def q167:FA Tryz.f167:=⟨_,by conv=>lhs;cbv⟩
def a167:=q167.1
theorem g167:GK 167 Tryz.f167 a167:={ c:=q167.2,f:=Tryz.func167 }
def q172:FA Tryz.f172:=⟨_,by conv=>lhs;cbv⟩
def a172:=q172.1
theorem g172:GK 172 Tryz.f172 a172:={ c:=q172.2,f:=Tryz.func172 }
def q173:FA Tryz.f173:=⟨_,by conv=>lhs;cbv⟩
def a173:=q173.1
theorem g173:GK 173 Tryz.f173 a173:={ c:=q173.2,f:=Tryz.func173 }
def q179:FA Tryz.f179:=⟨_,by conv=>lhs;cbv⟩
def Q2:=q179.1
theorem g179:GK 179 Tryz.f179 Q2:={ c:=q179.2,f:=Tryz.func179 }
def q183:FA Tryz.f183:=⟨_,by conv=>lhs;cbv⟩
def Nl:=q183.1
theorem g183:GK 183 Tryz.f183 Nl:={ c:=q183.2,f:=Tryz.func183 }
def q186:FA Tryz.f186:=⟨_,by conv=>lhs;cbv⟩
def Nj:=q186.1
theorem g186:GK 186 Tryz.f186 Nj:={ c:=q186.2,f:=Tryz.func186 }
def q203:FA Tryz.f203:=⟨_,by conv=>lhs;cbv⟩
def Qt:=q203.1
theorem g203:GK 203 Tryz.f203 Qt:={ c:=q203.2,f:=Tryz.func203 }
def q204:FA Tryz.f204:=⟨_,by conv=>lhs;cbv⟩
def Qs:=q204.1
theorem g204:GK 204 Tryz.f204 Qs:={ c:=q204.2,f:=Tryz.func204 }
def q213:FA Tryz.f213:=⟨_,by conv=>lhs;cbv⟩
def Na:=q213.1
theorem g213:GK 213 Tryz.f213 Na:={ c:=q213.2,f:=Tryz.func213 }
def q214:FA Tryz.f214:=⟨_,by conv=>lhs;cbv⟩
def MZ:=q214.1
theorem g214:GK 214 Tryz.f214 MZ:={ c:=q214.2,f:=Tryz.func214 }
def q217:FA Tryz.f217:=⟨_,by conv=>lhs;cbv⟩
def Qm:=q217.1
theorem g217:GK 217 Tryz.f217 Qm:={ c:=q217.2,f:=Tryz.func217 }
def q218:FA Tryz.f218:=⟨_,by conv=>lhs;cbv⟩
def Ql:=q218.1
theorem g218:GK 218 Tryz.f218 Ql:={ c:=q218.2,f:=Tryz.func218 }
def q219:FA Tryz.f219:=⟨_,by conv=>lhs;cbv⟩
def Qk:=q219.1
theorem g219:GK 219 Tryz.f219 Qk:={ c:=q219.2,f:=Tryz.func219 }
end X
end
end Go.AM
