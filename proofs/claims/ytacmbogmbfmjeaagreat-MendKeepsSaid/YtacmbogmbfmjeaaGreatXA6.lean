/-
 Functions of the program as the abstract machine reads them, and what is stated of them, checked by the kernel. No conditions.
-/
import Derived.Test.YtacmbogmbfmjeaaGreatXN
set_option linter.unusedVariables false
set_option linter.unusedSimpArgs false
set_option linter.unnecessarySimpa false
set_option maxRecDepth 100000
namespace Go.AM
noncomputable section
open Go.Proofs
namespace X
def q11:FA Tryz.f11:=⟨_,by conv=>lhs;cbv⟩
def a11:=q11.1
theorem g11:GK 11 Tryz.f11 a11:={ c:=q11.2,f:=Tryz.func11 }
def q18:FA Tryz.f18:=⟨_,by conv=>lhs;cbv⟩
def H6:=q18.1
theorem g18:GK 18 Tryz.f18 H6:={ c:=q18.2,f:=Tryz.func18 }
def q27:FA Tryz.f27:=⟨_,by conv=>lhs;cbv⟩
def a27:=q27.1
theorem g27:GK 27 Tryz.f27 a27:={ c:=q27.2,f:=Tryz.func27 }
def q38:FA Tryz.f38:=⟨_,by conv=>lhs;cbv⟩
def a38:=q38.1
theorem g38:GK 38 Tryz.f38 a38:={ c:=q38.2,f:=Tryz.func38 }
def q56:FA Tryz.f56:=⟨_,by conv=>lhs;cbv⟩
def a56:=q56.1
theorem g56:GK 56 Tryz.f56 a56:={ c:=q56.2,f:=Tryz.func56 }
def q62:FA Tryz.f62:=⟨_,by conv=>lhs;cbv⟩
def a62:=q62.1
theorem g62:GK 62 Tryz.f62 a62:={ c:=q62.2,f:=Tryz.func62 }
def q64:FA Tryz.f64:=⟨_,by conv=>lhs;cbv⟩
def a64:=q64.1
theorem g64:GK 64 Tryz.f64 a64:={ c:=q64.2,f:=Tryz.func64 }
def q71:FA Tryz.f71:=⟨_,by conv=>lhs;cbv⟩
def a71:=q71.1
theorem g71:GK 71 Tryz.f71 a71:={ c:=q71.2,f:=Tryz.func71 }
def q73:FA Tryz.f73:=⟨_,by conv=>lhs;cbv⟩
def a73:=q73.1
theorem g73:GK 73 Tryz.f73 a73:={ c:=q73.2,f:=Tryz.func73 }
def q81:FA Tryz.f81:=⟨_,by conv=>lhs;cbv⟩
def a81:=q81.1
theorem g81:GK 81 Tryz.f81 a81:={ c:=q81.2,f:=Tryz.func81 }
def q83:FA Tryz.f83:=⟨_,by conv=>lhs;cbv⟩
def a83:=q83.1
theorem g83:GK 83 Tryz.f83 a83:={ c:=q83.2,f:=Tryz.func83 }
def q86:FA Tryz.f86:=⟨_,by conv=>lhs;cbv⟩
def a86:=q86.1
theorem g86:GK 86 Tryz.f86 a86:={ c:=q86.2,f:=Tryz.func86 }
def q92:FA Tryz.f92:=⟨_,by conv=>lhs;cbv⟩
def a92:=q92.1
theorem g92:GK 92 Tryz.f92 a92:={ c:=q92.2,f:=Tryz.func92 }
def q103:FA Tryz.f103:=⟨_,by conv=>lhs;cbv⟩
def PU:=q103.1
theorem g103:GK 103 Tryz.f103 PU:={ c:=q103.2,f:=Tryz.func103 }
def q106:FA Tryz.f106:=⟨_,by conv=>lhs;cbv⟩
def T0:=q106.1
theorem g106:GK 106 Tryz.f106 T0:={ c:=q106.2,f:=Tryz.func106 }
def q115:FA Tryz.f115:=⟨_,by conv=>lhs;cbv⟩
def PL:=q115.1
theorem g115:GK 115 Tryz.f115 PL:={ c:=q115.2,f:=Tryz.func115 }
def q124:FA Tryz.f124:=⟨_,by conv=>lhs;cbv⟩
def a124:=q124.1
theorem g124:GK 124 Tryz.f124 a124:={ c:=q124.2,f:=Tryz.func124 }
def q137:FA Tryz.f137:=⟨_,by conv=>lhs;cbv⟩
def Tp:=q137.1
theorem g137:GK 137 Tryz.f137 Tp:={ c:=q137.2,f:=Tryz.func137 }
def q139:FA Tryz.f139:=⟨_,by conv=>lhs;cbv⟩
def PG:=q139.1
theorem g139:GK 139 Tryz.f139 PG:={ c:=q139.2,f:=Tryz.func139 }
def q145:FA Tryz.f145:=⟨_,by conv=>lhs;cbv⟩
def MN:=q145.1
theorem g145:GK 145 Tryz.f145 MN:={ c:=q145.2,f:=Tryz.func145 }
def q147:FA Tryz.f147:=⟨_,by conv=>lhs;cbv⟩
def PD:=q147.1
theorem g147:GK 147 Tryz.f147 PD:={ c:=q147.2,f:=Tryz.func147 }
def q152:FA Tryz.f152:=⟨_,by conv=>lhs;cbv⟩
def PA:=q152.1
theorem g152:GK 152 Tryz.f152 PA:={ c:=q152.2,f:=Tryz.func152 }
def q154:FA Tryz.f154:=⟨_,by conv=>lhs;cbv⟩
def Ti:=q154.1
theorem g154:GK 154 Tryz.f154 Ti:={ c:=q154.2,f:=Tryz.func154 }
def q161:FA Tryz.f161:=⟨_,by conv=>lhs;cbv⟩
def Tb:=q161.1
theorem g161:GK 161 Tryz.f161 Tb:={ c:=q161.2,f:=Tryz.func161 }
def q164:FA Tryz.f164:=⟨_,by conv=>lhs;cbv⟩
def MM:=q164.1
theorem g164:GK 164 Tryz.f164 MM:={ c:=q164.2,f:=Tryz.func164 }
def q170:FA Tryz.f170:=⟨_,by conv=>lhs;cbv⟩
def a170:=q170.1
theorem g170:GK 170 Tryz.f170 a170:={ c:=q170.2,f:=Tryz.func170 }
def q172:FA Tryz.f172:=⟨_,by conv=>lhs;cbv⟩
def a172:=q172.1
theorem g172:GK 172 Tryz.f172 a172:={ c:=q172.2,f:=Tryz.func172 }
def q174:FA Tryz.f174:=⟨_,by conv=>lhs;cbv⟩
def P8:=q174.1
theorem g174:GK 174 Tryz.f174 P8:={ c:=q174.2,f:=Tryz.func174 }
def q178:FA Tryz.f178:=⟨_,by conv=>lhs;cbv⟩
def SY:=q178.1
theorem g178:GK 178 Tryz.f178 SY:={ c:=q178.2,f:=Tryz.func178 }
def q179:FA Tryz.f179:=⟨_,by conv=>lhs;cbv⟩
def P6:=q179.1
theorem g179:GK 179 Tryz.f179 P6:={ c:=q179.2,f:=Tryz.func179 }
def q188:FA Tryz.f188:=⟨_,by conv=>lhs;cbv⟩
def SV:=q188.1
theorem g188:GK 188 Tryz.f188 SV:={ c:=q188.2,f:=Tryz.func188 }
def q193:FA Tryz.f193:=⟨_,by conv=>lhs;cbv⟩
def SQ:=q193.1
theorem g193:GK 193 Tryz.f193 SQ:={ c:=q193.2,f:=Tryz.func193 }
def q196:FA Tryz.f196:=⟨_,by conv=>lhs;cbv⟩
def a196:=q196.1
theorem g196:GK 196 Tryz.f196 a196:={ c:=q196.2,f:=Tryz.func196 }
def q212:FA Tryz.f212:=⟨_,by conv=>lhs;cbv⟩
def Ps:=q212.1
theorem g212:GK 212 Tryz.f212 Ps:={ c:=q212.2,f:=Tryz.func212 }
def q220:FA Tryz.f220:=⟨_,by conv=>lhs;cbv⟩
def Pk:=q220.1
theorem g220:GK 220 Tryz.f220 Pk:={ c:=q220.2,f:=Tryz.func220 }
end X
end
end Go.AM
