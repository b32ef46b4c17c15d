/-
 Functions of the program as the abstract machine reads them, and what is stated of them, checked by the kernel. No conditions.
-/
import Derived.Test.YtacmbogmbfmjeaaGreatXN
set_option linter.unusedVariables false
set_option linter.unusedSimpArgs false
set_option linter.unnecessarySimpa false
set_option maxRecDepth 100000
namespace Go.AM
noncomputable section
open Go.Proofs
namespace X
def q12:FA Tryz.f12:=⟨_,by conv=>lhs;cbv⟩
def H9:=q12.1
theorem g12:GK 12 Tryz.f12 H9:={ c:=q12.2,f:=Tryz.func12 }
def q15:FA Tryz.f15:=⟨_,by conv=>lhs;cbv⟩
def H7:=q15.1
theorem g15:GK 15 Tryz.f15 H7:={ c:=q15.2,f:=Tryz.func15 }
def q19:FA Tryz.f19:=⟨_,by conv=>lhs;cbv⟩
def H5:=q19.1
theorem g19:GK 19 Tryz.f19 H5:={ c:=q19.2,f:=Tryz.func19 }
def q21:FA Tryz.f21:=⟨_,by conv=>lhs;cbv⟩
def H3:=q21.1
theorem g21:GK 21 Tryz.f21 H3:={ c:=q21.2,f:=Tryz.func21 }
def q26:FA Tryz.f26:=⟨_,by conv=>lhs;cbv⟩
def a26:=q26.1
theorem g26:GK 26 Tryz.f26 a26:={ c:=q26.2,f:=Tryz.func26 }
def q28:FA Tryz.f28:=⟨_,by conv=>lhs;cbv⟩
def a28:=q28.1
theorem g28:GK 28 Tryz.f28 a28:={ c:=q28.2,f:=Tryz.func28 }
def q30:FA Tryz.f30:=⟨_,by conv=>lhs;cbv⟩
def a30:=q30.1
theorem g30:GK 30 Tryz.f30 a30:={ c:=q30.2,f:=Tryz.func30 }
def q32:FA Tryz.f32:=⟨_,by conv=>lhs;cbv⟩
def a32:=q32.1
theorem g32:GK 32 Tryz.f32 a32:={ c:=q32.2,f:=Tryz.func32 }
def q55:FA Tryz.f55:=⟨_,by conv=>lhs;cbv⟩
def a55:=q55.1
theorem g55:GK 55 Tryz.f55 a55:={ c:=q55.2,f:=Tryz.func55 }
def q65:FA Tryz.f65:=⟨_,by conv=>lhs;cbv⟩
def a65:=q65.1
theorem g65:GK 65 Tryz.f65 a65:={ c:=q65.2,f:=Tryz.func65 }
def q76:FA Tryz.f76:=⟨_,by conv=>lhs;cbv⟩
def a76:=q76.1
theorem g76:GK 76 Tryz.f76 a76:={ c:=q76.2,f:=Tryz.func76 }
def q97:FA Tryz.f97:=⟨_,by conv=>lhs;cbv⟩
def a97:=q97.1
theorem g97:GK 97 Tryz.f97 a97:={ c:=q97.2,f:=Tryz.func97 }
def q98:FA Tryz.f98:=⟨_,by conv=>lhs;cbv⟩
def a98:=q98.1
theorem g98:GK 98 Tryz.f98 a98:={ c:=q98.2,f:=Tryz.func98 }
def q99:FA Tryz.f99:=⟨_,by conv=>lhs;cbv⟩
def a99:=q99.1
theorem g99:GK 99 Tryz.f99 a99:={ c:=q99.2,f:=Tryz.func99 }
def q102:FA Tryz.f102:=⟨_,by conv=>lhs;cbv⟩
def PV:=q102.1
theorem g102:GK 102 Tryz.f102 PV:={ c:=q102.2,f:=Tryz.func102 }
def q104:FA Tryz.f104:=⟨_,by conv=>lhs;cbv⟩
def T2:=q104.1
theorem g104:GK 104 Tryz.f104 T2:={ c:=q104.2,f:=Tryz.func104 }
def q111:FA Tryz.f111:=⟨_,by conv=>lhs;cbv⟩
def PP:=q111.1
theorem g111:GK 111 Tryz.f111 PP:={ c:=q111.2,f:=Tryz.func111 }
def q120:FA Tryz.f120:=⟨_,by conv=>lhs;cbv⟩
def YH:=q120.1
theorem g120:GK 120 Tryz.f120 YH:={ c:=q120.2,f:=Tryz.func120 }
def q123:FA Tryz.f123:=⟨_,by conv=>lhs;cbv⟩
def a123:=q123.1
theorem g123:GK 123 Tryz.f123 a123:={ c:=q123.2,f:=Tryz.func123 }
def q130:FA Tryz.f130:=⟨_,by conv=>lhs;cbv⟩
def PJ:=q130.1
theorem g130:GK 130 Tryz.f130 PJ:={ c:=q130.2,f:=Tryz.func130 }
def q136:FA Tryz.f136:=⟨_,by conv=>lhs;cbv⟩
def Tq:=q136.1
theorem g136:GK 136 Tryz.f136 Tq:={ c:=q136.2,f:=Tryz.func136 }
def q148:FA Tryz.f148:=⟨_,by conv=>lhs;cbv⟩
def Tl:=q148.1
theorem g148:GK 148 Tryz.f148 Tl:={ c:=q148.2,f:=Tryz.func148 }
def q155:FA Tryz.f155:=⟨_,by conv=>lhs;cbv⟩
def Th:=q155.1
theorem g155:GK 155 Tryz.f155 Th:={ c:=q155.2,f:=Tryz.func155 }
def q158:FA Tryz.f158:=⟨_,by conv=>lhs;cbv⟩
def Te:=q158.1
theorem g158:GK 158 Tryz.f158 Te:={ c:=q158.2,f:=Tryz.func158 }
def q159:FA Tryz.f159:=⟨_,by conv=>lhs;cbv⟩
def Td:=q159.1
theorem g159:GK 159 Tryz.f159 Td:={ c:=q159.2,f:=Tryz.func159 }
def q171:FA Tryz.f171:=⟨_,by conv=>lhs;cbv⟩
def a171:=q171.1
theorem g171:GK 171 Tryz.f171 a171:={ c:=q171.2,f:=Tryz.func171 }
def q183:FA Tryz.f183:=⟨_,by conv=>lhs;cbv⟩
def P4:=q183.1
theorem g183:GK 183 Tryz.f183 P4:={ c:=q183.2,f:=Tryz.func183 }
def q184:FA Tryz.f184:=⟨_,by conv=>lhs;cbv⟩
def P3:=q184.1
theorem g184:GK 184 Tryz.f184 P3:={ c:=q184.2,f:=Tryz.func184 }
def q191:FA Tryz.f191:=⟨_,by conv=>lhs;cbv⟩
def SS:=q191.1
theorem g191:GK 191 Tryz.f191 SS:={ c:=q191.2,f:=Tryz.func191 }
def q197:FA Tryz.f197:=⟨_,by conv=>lhs;cbv⟩
def a197:=q197.1
theorem g197:GK 197 Tryz.f197 a197:={ c:=q197.2,f:=Tryz.func197 }
def q199:FA Tryz.f199:=⟨_,by conv=>lhs;cbv⟩
def a199:=q199.1
theorem g199:GK 199 Tryz.f199 a199:={ c:=q199.2,f:=Tryz.func199 }
def q214:FA Tryz.f214:=⟨_,by conv=>lhs;cbv⟩
def Pq:=q214.1
theorem g214:GK 214 Tryz.f214 Pq:={ c:=q214.2,f:=Tryz.func214 }
def q216:FA Tryz.f216:=⟨_,by conv=>lhs;cbv⟩
def Po:=q216.1
theorem g216:GK 216 Tryz.f216 Po:={ c:=q216.2,f:=Tryz.func216 }
def q218:FA Tryz.f218:=⟨_,by conv=>lhs;cbv⟩
def Pm:=q218.1
theorem g218:GK 218 Tryz.f218 Pm:={ c:=q218.2,f:=Tryz.func218 }
def q219:FA Tryz.f219:=⟨_,by conv=>lhs;cbv⟩
def Pl:=q219.1
theorem g219:GK 219 Tryz.f219 Pl:={ c:=q219.2,f:=Tryz.func219 }
end X
end
end Go.AM
