/-
 Functions of the program as the abstract machine reads them, and what is stated of them, checked by the kernel. No conditions.
-/
import Derived.Test.YtacmbogmbfmjeaaGreatXN
set_option linter.unusedVariables false
set_option linter.unusedSimpArgs false
set_option linter.unnecessarySimpa false
set_option maxRecDepth 100000
namespace Go.AM
noncomputable section
open Go.Proofs
namespace X
def q10:FA Tryz.f10:=⟨_,by conv=>lhs;cbv⟩
def a10:=q10.1
theorem g10:GK 10 Tryz.f10 a10:={ c:=q10.2,f:=Tryz.func10 }
def q18:FA Tryz.f18:=⟨_,by conv=>lhs;cbv⟩
def a18:=q18.1
theorem g18:GK 18 Tryz.f18 a18:={ c:=q18.2,f:=Tryz.func18 }
def q31:FA Tryz.f31:=⟨_,by conv=>lhs;cbv⟩
def a31:=q31.1
theorem g31:GK 31 Tryz.f31 a31:={ c:=q31.2,f:=Tryz.func31 }
def q39:FA Tryz.f39:=⟨_,by conv=>lhs;cbv⟩
def a39:=q39.1
theorem g39:GK 39 Tryz.f39 a39:={ c:=q39.2,f:=Tryz.func39 }
def q42:FA Tryz.f42:=⟨_,by conv=>lhs;cbv⟩
def a42:=q42.1
theorem g42:GK 42 Tryz.f42 a42:={ c:=q42.2,f:=Tryz.func42 }
def q43:FA Tryz.f43:=⟨_,by conv=>lhs;cbv⟩
def a43:=q43.1
theorem g43:GK 43 Tryz.f43 a43:={ c:=q43.2,f:=Tryz.func43 }
def q56:FA Tryz.f56:=⟨_,by conv=>lhs;cbv⟩
def a56:=q56.1
theorem g56:GK 56 Tryz.f56 a56:={ c:=q56.2,f:=Tryz.func56 }
def q68:FA Tryz.f68:=⟨_,by conv=>lhs;cbv⟩
def a68:=q68.1
theorem g68:GK 68 Tryz.f68 a68:={ c:=q68.2,f:=Tryz.func68 }
def q71:FA Tryz.f71:=⟨_,by conv=>lhs;cbv⟩
def a71:=q71.1
theorem g71:GK 71 Tryz.f71 a71:={ c:=q71.2,f:=Tryz.func71 }
def q89:FA Tryz.f89:=⟨_,by conv=>lhs;cbv⟩
def a89:=q89.1
theorem g89:GK 89 Tryz.f89 a89:={ c:=q89.2,f:=Tryz.func89 }
def q90:FA Tryz.f90:=⟨_,by conv=>lhs;cbv⟩
def a90:=q90.1
theorem g90:GK 90 Tryz.f90 a90:={ c:=q90.2,f:=Tryz.func90 }
def q100:FA Tryz.f100:=⟨_,by conv=>lhs;cbv⟩
def NA:=q100.1
theorem g100:GK 100 Tryz.f100 NA:={ c:=q100.2,f:=Tryz.func100 }
def q110:FA Tryz.f110:=⟨_,by conv=>lhs;cbv⟩
def QV:=q110.1
theorem g110:GK 110 Tryz.f110 QV:={ c:=q110.2,f:=Tryz.func110 }
def q129:FA Tryz.f129:=⟨_,by conv=>lhs;cbv⟩
def VP:=q129.1
theorem g129:GK 129 Tryz.f129 VP:={ c:=q129.2,f:=Tryz.func129 }
def q131:FA Tryz.f131:=⟨_,by conv=>lhs;cbv⟩
def a131:=q131.1
theorem g131:GK 131 Tryz.f131 a131:={ c:=q131.2,f:=Tryz.func131 }
def q132:FA Tryz.f132:=⟨_,by conv=>lhs;cbv⟩
def a132:=q132.1
theorem g132:GK 132 Tryz.f132 a132:={ c:=q132.2,f:=Tryz.func132 }
def q137:FA Tryz.f137:=⟨_,by conv=>lhs;cbv⟩
def QM:=q137.1
theorem g137:GK 137 Tryz.f137 QM:={ c:=q137.2,f:=Tryz.func137 }
def q138:FA Tryz.f138:=⟨_,by conv=>lhs;cbv⟩
def Nx:=q138.1
theorem g138:GK 138 Tryz.f138 Nx:={ c:=q138.2,f:=Tryz.func138 }
def q140:FA Tryz.f140:=⟨_,by conv=>lhs;cbv⟩
def QL:=q140.1
theorem g140:GK 140 Tryz.f140 QL:={ c:=q140.2,f:=Tryz.func140 }
def q151:FA Tryz.f151:=⟨_,by conv=>lhs;cbv⟩
def Nq:=q151.1
theorem g151:GK 151 Tryz.f151 Nq:={ c:=q151.2,f:=Tryz.func151 }
def q152:FA Tryz.f152:=⟨_,by conv=>lhs;cbv⟩
def Np:=q152.1
theorem g152:GK 152 Tryz.f152 Np:={ c:=q152.2,f:=Tryz.func152 }
def q162:FA Tryz.f162:=⟨_,by conv=>lhs;cbv⟩
def Q6:=q162.1
theorem g162:GK 162 Tryz.f162 Q6:={ c:=q162.2,f:=Tryz.func162 }
def q168:FA Tryz.f168:=⟨_,by conv=>lhs;cbv⟩
def a168:=q168.1
theorem g168:GK 168 Tryz.f168 a168:={ c:=q168.2,f:=Tryz.func168 }
def q169:FA Tryz.f169:=⟨_,by conv=>lhs;cbv⟩
def a169:=q169.1
theorem g169:GK 169 Tryz.f169 a169:={ c:=q169.2,f:=Tryz.func169 }
def q170:FA Tryz.f170:=⟨_,by conv=>lhs;cbv⟩
def a170:=q170.1
theorem g170:GK 170 Tryz.f170 a170:={ c:=q170.2,f:=Tryz.func170 }
def q171:FA Tryz.f171:=⟨_,by conv=>lhs;cbv⟩
def a171:=q171.1
theorem g171:GK 171 Tryz.f171 a171:={ c:=q171.2,f:=Tryz.func171 }
def q174:FA Tryz.f174:=⟨_,by conv=>lhs;cbv⟩
def Nm:=q174.1
theorem g174:GK 174 Tryz.f174 Nm:={ c:=q174.2,f:=Tryz.func174 }
def q184:FA Tryz.f184:=⟨_,by conv=>lhs;cbv⟩
def Nk:=q184.1
theorem g184:GK 184 Tryz.f184 Nk:={ c:=q184.2,f:=Tryz.func184 }
def q189:FA Tryz.f189:=⟨_,by conv=>lhs;cbv⟩
def Qy:=q189.1
theorem g189:GK 189 Tryz.f189 Qy:={ c:=q189.2,f:=Tryz.func189 }
def q191:FA Tryz.f191:=⟨_,by conv=>lhs;cbv⟩
def Qw:=q191.1
theorem g191:GK 191 Tryz.f191 Qw:={ c:=q191.2,f:=Tryz.func191 }
def q196:FA Tryz.f196:=⟨_,by conv=>lhs;cbv⟩
def a196:=q196.1
theorem g196:GK 196 Tryz.f196 a196:={ c:=q196.2,f:=Tryz.func196 }
def q206:FA Tryz.f206:=⟨_,by conv=>lhs;cbv⟩
def Qq:=q206.1
theorem g206:GK 206 Tryz.f206 Qq:={ c:=q206.2,f:=Tryz.func206 }
def q210:FA Tryz.f210:=⟨_,by conv=>lhs;cbv⟩
def Nd:=q210.1
theorem g210:GK 210 Tryz.f210 Nd:={ c:=q210.2,f:=Tryz.func210 }
def q221:FA Tryz.f221:=⟨_,by conv=>lhs;cbv⟩
def MW:=q221.1
theorem g221:GK 221 Tryz.f221 MW:={ c:=q221.2,f:=Tryz.func221 }
def q222:FA Tryz.f222:=⟨_,by conv=>lhs;cbv⟩
def Qj:=q222.1
theorem g222:GK 222 Tryz.f222 Qj:={ c:=q222.2,f:=Tryz.func222 }
end X
end
end Go.AM
