/-
 Functions of the program as the abstract machine reads them, and what is stated of them, checked by the kernel. No conditions.
-/
import Derived.Test.YtacmbogmbfmjeaaGreatXN
set_option linter.unusedVariables false
set_option linter.unusedSimpArgs false
set_option linter.unnecessarySimpa false
set_option maxRecDepth 100000
namespace Go.AM
noncomputable section
open Go.Proofs
namespace X
def q5:FA Tryz.f5:=⟨_,by conv=>lhs;cbv⟩
def a5:=q5.1
theorem g5:GK 5 Tryz.f5 a5:={ c:=q5.2,f:=Tryz.func5 }
def q6:FA Tryz.f6:=⟨_,by conv=>lhs;cbv⟩
def a6:=q6.1
theorem g6:GK 6 Tryz.f6 a6:={ c:=q6.2,f:=Tryz.func6 }
def q12:FA Tryz.f12:=⟨_,by conv=>lhs;cbv⟩
def a12:=q12.1
theorem g12:GK 12 Tryz.f12 a12:={ c:=q12.2,f:=Tryz.func12 }
def q27:FA Tryz.f27:=⟨_,by conv=>lhs;cbv⟩
def a27:=q27.1
theorem g27:GK 27 Tryz.f27 a27:={ c:=q27.2,f:=Tryz.func27 }
def q37:FA Tryz.f37:=⟨_,by conv=>lhs;cbv⟩
def a37:=q37.1
theorem g37:GK 37 Tryz.f37 a37:={ c:=q37.2,f:=Tryz.func37 }
def q47:FA Tryz.f47:=⟨_,by conv=>lhs;cbv⟩
def a47:=q47.1
theorem g47:GK 47 Tryz.f47 a47:={ c:=q47.2,f:=Tryz.func47 }
def q48:FA Tryz.f48:=⟨_,by conv=>lhs;cbv⟩
def a48:=q48.1
theorem g48:GK 48 Tryz.f48 a48:={ c:=q48.2,f:=Tryz.func48 }
def q63:FA Tryz.f63:=⟨_,by conv=>lhs;cbv⟩
def Lm:=q63.1
theorem g63:GK 63 Tryz.f63 Lm:={ c:=q63.2,f:=Tryz.func63 }
def q70:FA Tryz.f70:=⟨_,by conv=>lhs;cbv⟩
def a70:=q70.1
theorem g70:GK 70 Tryz.f70 a70:={ c:=q70.2,f:=Tryz.func70 }
def q73:FA Tryz.f73:=⟨_,by conv=>lhs;cbv⟩
def a73:=q73.1
theorem g73:GK 73 Tryz.f73 a73:={ c:=q73.2,f:=Tryz.func73 }
def q78:FA Tryz.f78:=⟨_,by conv=>lhs;cbv⟩
def a78:=q78.1
theorem g78:GK 78 Tryz.f78 a78:={ c:=q78.2,f:=Tryz.func78 }
def q79:FA Tryz.f79:=⟨_,by conv=>lhs;cbv⟩
def a79:=q79.1
theorem g79:GK 79 Tryz.f79 a79:={ c:=q79.2,f:=Tryz.func79 }
def q86:FA Tryz.f86:=⟨_,by conv=>lhs;cbv⟩
def a86:=q86.1
theorem g86:GK 86 Tryz.f86 a86:={ c:=q86.2,f:=Tryz.func86 }
def q87:FA Tryz.f87:=⟨_,by conv=>lhs;cbv⟩
def a87:=q87.1
theorem g87:GK 87 Tryz.f87 a87:={ c:=q87.2,f:=Tryz.func87 }
def q94:FA Tryz.f94:=⟨_,by conv=>lhs;cbv⟩
def a94:=q94.1
theorem g94:GK 94 Tryz.f94 a94:={ c:=q94.2,f:=Tryz.func94 }
def q95:FA Tryz.f95:=⟨_,by conv=>lhs;cbv⟩
def a95:=q95.1
theorem g95:GK 95 Tryz.f95 a95:={ c:=q95.2,f:=Tryz.func95 }
def q98:FA Tryz.f98:=⟨_,by conv=>lhs;cbv⟩
def a98:=q98.1
theorem g98:GK 98 Tryz.f98 a98:={ c:=q98.2,f:=Tryz.func98 }
def q112:FA Tryz.f112:=⟨_,by conv=>lhs;cbv⟩
def QU:=q112.1
theorem g112:GK 112 Tryz.f112 QU:={ c:=q112.2,f:=Tryz.func112 }
def q120:FA Tryz.f120:=⟨_,by conv=>lhs;cbv⟩
def VQ:=q120.1
theorem g120:GK 120 Tryz.f120 VQ:={ c:=q120.2,f:=Tryz.func120 }
def q124:FA Tryz.f124:=⟨_,by conv=>lhs;cbv⟩
def a124:=q124.1
theorem g124:GK 124 Tryz.f124 a124:={ c:=q124.2,f:=Tryz.func124 }
def q135:FA Tryz.f135:=⟨_,by conv=>lhs;cbv⟩
def QO:=q135.1
theorem g135:GK 135 Tryz.f135 QO:={ c:=q135.2,f:=Tryz.func135 }
def q136:FA Tryz.f136:=⟨_,by conv=>lhs;cbv⟩
def QN:=q136.1
theorem g136:GK 136 Tryz.f136 QN:={ c:=q136.2,f:=Tryz.func136 }
def q139:FA Tryz.f139:=⟨_,by conv=>lhs;cbv⟩
def Nw:=q139.1
theorem g139:GK 139 Tryz.f139 Nw:={ c:=q139.2,f:=Tryz.func139 }
def q142:FA Tryz.f142:=⟨_,by conv=>lhs;cbv⟩
def Nv:=q142.1
theorem g142:GK 142 Tryz.f142 Nv:={ c:=q142.2,f:=Tryz.func142 }
def q153:FA Tryz.f153:=⟨_,by conv=>lhs;cbv⟩
def QG:=q153.1
theorem g153:GK 153 Tryz.f153 QG:={ c:=q153.2,f:=Tryz.func153 }
def q156:FA Tryz.f156:=⟨_,by conv=>lhs;cbv⟩
def QD:=q156.1
theorem g156:GK 156 Tryz.f156 QD:={ c:=q156.2,f:=Tryz.func156 }
def q160:FA Tryz.f160:=⟨_,by conv=>lhs;cbv⟩
def Q8:=q160.1
theorem g160:GK 160 Tryz.f160 Q8:={ c:=q160.2,f:=Tryz.func160 }
def q175:FA Tryz.f175:=⟨_,by conv=>lhs;cbv⟩
def Q5:=q175.1
theorem g175:GK 175 Tryz.f175 Q5:={ c:=q175.2,f:=Tryz.func175 }
def q181:FA Tryz.f181:=⟨_,by conv=>lhs;cbv⟩
def Q0:=q181.1
theorem g181:GK 181 Tryz.f181 Q0:={ c:=q181.2,f:=Tryz.func181 }
def q193:FA Tryz.f193:=⟨_,by conv=>lhs;cbv⟩
def Qv:=q193.1
theorem g193:GK 193 Tryz.f193 Qv:={ c:=q193.2,f:=Tryz.func193 }
def q195:FA Tryz.f195:=⟨_,by conv=>lhs;cbv⟩
def a195:=q195.1
theorem g195:GK 195 Tryz.f195 a195:={ c:=q195.2,f:=Tryz.func195 }
def q197:FA Tryz.f197:=⟨_,by conv=>lhs;cbv⟩
def a197:=q197.1
theorem g197:GK 197 Tryz.f197 a197:={ c:=q197.2,f:=Tryz.func197 }
def q201:FA Tryz.f201:=⟨_,by conv=>lhs;cbv⟩
def Ng:=q201.1
theorem g201:GK 201 Tryz.f201 Ng:={ c:=q201.2,f:=Tryz.func201 }
def q209:FA Tryz.f209:=⟨_,by conv=>lhs;cbv⟩
def Qo:=q209.1
theorem g209:GK 209 Tryz.f209 Qo:={ c:=q209.2,f:=Tryz.func209 }
def q215:FA Tryz.f215:=⟨_,by conv=>lhs;cbv⟩
def MY:=q215.1
theorem g215:GK 215 Tryz.f215 MY:={ c:=q215.2,f:=Tryz.func215 }
end X
end
end Go.AM
