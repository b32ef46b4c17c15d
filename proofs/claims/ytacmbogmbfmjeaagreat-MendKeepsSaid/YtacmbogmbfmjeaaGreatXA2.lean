/-
 Functions of the program as the abstract machine reads them, and what is stated of them, checked by the kernel. No conditions.
-/
import Derived.Test.YtacmbogmbfmjeaaGreatXN
set_option linter.unusedVariables false
set_option linter.unusedSimpArgs false
set_option linter.unnecessarySimpa false
set_option maxRecDepth 100000
namespace Go.AM
noncomputable section
open Go.Proofs
namespace X
def q13:FA Tryz.f13:=⟨_,by conv=>lhs;cbv⟩
def H8:=q13.1
theorem g13:GK 13 Tryz.f13 H8:={ c:=q13.2,f:=Tryz.func13 }
def q22:FA Tryz.f22:=⟨_,by conv=>lhs;cbv⟩
def H1:=q22.1
theorem g22:GK 22 Tryz.f22 H1:={ c:=q22.2,f:=Tryz.func22 }
def q23:FA Tryz.f23:=⟨_,by conv=>lhs;cbv⟩
def a23:=q23.1
theorem g23:GK 23 Tryz.f23 a23:={ c:=q23.2,f:=Tryz.func23 }
def q31:FA Tryz.f31:=⟨_,by conv=>lhs;cbv⟩
def a31:=q31.1
theorem g31:GK 31 Tryz.f31 a31:={ c:=q31.2,f:=Tryz.func31 }
def q33:FA Tryz.f33:=⟨_,by conv=>lhs;cbv⟩
def a33:=q33.1
theorem g33:GK 33 Tryz.f33 a33:={ c:=q33.2,f:=Tryz.func33 }
def q34:FA Tryz.f34:=⟨_,by conv=>lhs;cbv⟩
def a34:=q34.1
theorem g34:GK 34 Tryz.f34 a34:={ c:=q34.2,f:=Tryz.func34 }
def q36:FA Tryz.f36:=⟨_,by conv=>lhs;cbv⟩
def a36:=q36.1
theorem g36:GK 36 Tryz.f36 a36:={ c:=q36.2,f:=Tryz.func36 }
def q37:FA Tryz.f37:=⟨_,by conv=>lhs;cbv⟩
def a37:=q37.1
theorem g37:GK 37 Tryz.f37 a37:={ c:=q37.2,f:=Tryz.func37 }
def q50:FA Tryz.f50:=⟨_,by conv=>lhs;cbv⟩
def a50:=q50.1
theorem g50:GK 50 Tryz.f50 a50:={ c:=q50.2,f:=Tryz.func50 }
def q70:FA Tryz.f70:=⟨_,by conv=>lhs;cbv⟩
def a70:=q70.1
theorem g70:GK 70 Tryz.f70 a70:={ c:=q70.2,f:=Tryz.func70 }
def q74:FA Tryz.f74:=⟨_,by conv=>lhs;cbv⟩
def a74:=q74.1
theorem g74:GK 74 Tryz.f74 a74:={ c:=q74.2,f:=Tryz.func74 }
def q75:FA Tryz.f75:=⟨_,by conv=>lhs;cbv⟩
def a75:=q75.1
theorem g75:GK 75 Tryz.f75 a75:={ c:=q75.2,f:=Tryz.func75 }
def q80:FA Tryz.f80:=⟨_,by conv=>lhs;cbv⟩
def a80:=q80.1
theorem g80:GK 80 Tryz.f80 a80:={ c:=q80.2,f:=Tryz.func80 }
def q87:FA Tryz.f87:=⟨_,by conv=>lhs;cbv⟩
def a87:=q87.1
theorem g87:GK 87 Tryz.f87 a87:={ c:=q87.2,f:=Tryz.func87 }
def q90:FA Tryz.f90:=⟨_,by conv=>lhs;cbv⟩
def MZ:=q90.1
theorem g90:GK 90 Tryz.f90 MZ:={ c:=q90.2,f:=Tryz.func90 }
def q93:FA Tryz.f93:=⟨_,by conv=>lhs;cbv⟩
def a93:=q93.1
theorem g93:GK 93 Tryz.f93 a93:={ c:=q93.2,f:=Tryz.func93 }
def q95:FA Tryz.f95:=⟨_,by conv=>lhs;cbv⟩
def a95:=q95.1
theorem g95:GK 95 Tryz.f95 a95:={ c:=q95.2,f:=Tryz.func95 }
def q109:FA Tryz.f109:=⟨_,by conv=>lhs;cbv⟩
def PQ:=q109.1
theorem g109:GK 109 Tryz.f109 PQ:={ c:=q109.2,f:=Tryz.func109 }
def q112:FA Tryz.f112:=⟨_,by conv=>lhs;cbv⟩
def Tx:=q112.1
theorem g112:GK 112 Tryz.f112 Tx:={ c:=q112.2,f:=Tryz.func112 }
def q121:FA Tryz.f121:=⟨_,by conv=>lhs;cbv⟩
def a121:=q121.1
theorem g121:GK 121 Tryz.f121 a121:={ c:=q121.2,f:=Tryz.func121 }
def q129:FA Tryz.f129:=⟨_,by conv=>lhs;cbv⟩
def YG:=q129.1
theorem g129:GK 129 Tryz.f129 YG:={ c:=q129.2,f:=Tryz.func129 }
def q132:FA Tryz.f132:=⟨_,by conv=>lhs;cbv⟩
def a132:=q132.1
theorem g132:GK 132 Tryz.f132 a132:={ c:=q132.2,f:=Tryz.func132 }
def q134:FA Tryz.f134:=⟨_,by conv=>lhs;cbv⟩
def PI:=q134.1
theorem g134:GK 134 Tryz.f134 PI:={ c:=q134.2,f:=Tryz.func134 }
def q142:FA Tryz.f142:=⟨_,by conv=>lhs;cbv⟩
def PF:=q142.1
theorem g142:GK 142 Tryz.f142 PF:={ c:=q142.2,f:=Tryz.func142 }
def q153:FA Tryz.f153:=⟨_,by conv=>lhs;cbv⟩
def Tj:=q153.1
theorem g153:GK 153 Tryz.f153 Tj:={ c:=q153.2,f:=Tryz.func153 }
def q160:FA Tryz.f160:=⟨_,by conv=>lhs;cbv⟩
def Tc:=q160.1
theorem g160:GK 160 Tryz.f160 Tc:={ c:=q160.2,f:=Tryz.func160 }
def q168:FA Tryz.f168:=⟨_,by conv=>lhs;cbv⟩
def a168:=q168.1
theorem g168:GK 168 Tryz.f168 a168:={ c:=q168.2,f:=Tryz.func168 }
def q173:FA Tryz.f173:=⟨_,by conv=>lhs;cbv⟩
def a173:=q173.1
theorem g173:GK 173 Tryz.f173 a173:={ c:=q173.2,f:=Tryz.func173 }
def q185:FA Tryz.f185:=⟨_,by conv=>lhs;cbv⟩
def ML:=q185.1
theorem g185:GK 185 Tryz.f185 ML:={ c:=q185.2,f:=Tryz.func185 }
def q190:FA Tryz.f190:=⟨_,by conv=>lhs;cbv⟩
def ST:=q190.1
theorem g190:GK 190 Tryz.f190 ST:={ c:=q190.2,f:=Tryz.func190 }
def q198:FA Tryz.f198:=⟨_,by conv=>lhs;cbv⟩
def a198:=q198.1
theorem g198:GK 198 Tryz.f198 a198:={ c:=q198.2,f:=Tryz.func198 }
def q200:FA Tryz.f200:=⟨_,by conv=>lhs;cbv⟩
def a200:=q200.1
theorem g200:GK 200 Tryz.f200 a200:={ c:=q200.2,f:=Tryz.func200 }
def q207:FA Tryz.f207:=⟨_,by conv=>lhs;cbv⟩
def Px:=q207.1
theorem g207:GK 207 Tryz.f207 Px:={ c:=q207.2,f:=Tryz.func207 }
def q215:FA Tryz.f215:=⟨_,by conv=>lhs;cbv⟩
def Pp:=q215.1
theorem g215:GK 215 Tryz.f215 Pp:={ c:=q215.2,f:=Tryz.func215 }
def q222:FA Tryz.f222:=⟨_,by conv=>lhs;cbv⟩
def J4:=q222.1
theorem g222:GK 222 Tryz.f222 J4:={ c:=q222.2,f:=Tryz.func222 }
end X
end
end Go.AM
