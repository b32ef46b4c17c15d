/-
 Functions of the program as the abstract machine reads them, and what is stated of them, checked by the kernel. No conditions.
-/
import Derived.Test.YtacmbogmbfmjeaaGreatXN
set_option linter.unusedVariables false
set_option linter.unusedSimpArgs false
set_option linter.unnecessarySimpa false
set_option maxRecDepth 100000
namespace Go.AM
noncomputable section
open Go.Proofs
namespace X
def q8:FA Tryz.f8:=⟨_,by conv=>lhs;cbv⟩
def a8:=q8.1
theorem g8:GK 8 Tryz.f8 a8:={ c:=q8.2,f:=Tryz.func8 }
def q24:FA Tryz.f24:=⟨_,by conv=>lhs;cbv⟩
def a24:=q24.1
theorem g24:GK 24 Tryz.f24 a24:={ c:=q24.2,f:=Tryz.func24 }
def q29:FA Tryz.f29:=⟨_,by conv=>lhs;cbv⟩
def a29:=q29.1
theorem g29:GK 29 Tryz.f29 a29:={ c:=q29.2,f:=Tryz.func29 }
def q40:FA Tryz.f40:=⟨_,by conv=>lhs;cbv⟩
def Nf:=q40.1
theorem g40:GK 40 Tryz.f40 Nf:={ c:=q40.2,f:=Tryz.func40 }
def q58:FA Tryz.f58:=⟨_,by conv=>lhs;cbv⟩
def a58:=q58.1
theorem g58:GK 58 Tryz.f58 a58:={ c:=q58.2,f:=Tryz.func58 }
def q59:FA Tryz.f59:=⟨_,by conv=>lhs;cbv⟩
def a59:=q59.1
theorem g59:GK 59 Tryz.f59 a59:={ c:=q59.2,f:=Tryz.func59 }
def q63:FA Tryz.f63:=⟨_,by conv=>lhs;cbv⟩
def Nc:=q63.1
theorem g63:GK 63 Tryz.f63 Nc:={ c:=q63.2,f:=Tryz.func63 }
def q67:FA Tryz.f67:=⟨_,by conv=>lhs;cbv⟩
def a67:=q67.1
theorem g67:GK 67 Tryz.f67 a67:={ c:=q67.2,f:=Tryz.func67 }
def q78:FA Tryz.f78:=⟨_,by conv=>lhs;cbv⟩
def a78:=q78.1
theorem g78:GK 78 Tryz.f78 a78:={ c:=q78.2,f:=Tryz.func78 }
def q91:FA Tryz.f91:=⟨_,by conv=>lhs;cbv⟩
def MY:=q91.1
theorem g91:GK 91 Tryz.f91 MY:={ c:=q91.2,f:=Tryz.func91 }
def q94:FA Tryz.f94:=⟨_,by conv=>lhs;cbv⟩
def a94:=q94.1
theorem g94:GK 94 Tryz.f94 a94:={ c:=q94.2,f:=Tryz.func94 }
def q100:FA Tryz.f100:=⟨_,by conv=>lhs;cbv⟩
def PX:=q100.1
theorem g100:GK 100 Tryz.f100 PX:={ c:=q100.2,f:=Tryz.func100 }
def q113:FA Tryz.f113:=⟨_,by conv=>lhs;cbv⟩
def PO:=q113.1
theorem g113:GK 113 Tryz.f113 PO:={ c:=q113.2,f:=Tryz.func113 }
def q118:FA Tryz.f118:=⟨_,by conv=>lhs;cbv⟩
def Tu:=q118.1
theorem g118:GK 118 Tryz.f118 Tu:={ c:=q118.2,f:=Tryz.func118 }
def q126:FA Tryz.f126:=⟨_,by conv=>lhs;cbv⟩
def a126:=q126.1
theorem g126:GK 126 Tryz.f126 a126:={ c:=q126.2,f:=Tryz.func126 }
def q131:FA Tryz.f131:=⟨_,by conv=>lhs;cbv⟩
def a131:=q131.1
theorem g131:GK 131 Tryz.f131 a131:={ c:=q131.2,f:=Tryz.func131 }
def q135:FA Tryz.f135:=⟨_,by conv=>lhs;cbv⟩
def Tr:=q135.1
theorem g135:GK 135 Tryz.f135 Tr:={ c:=q135.2,f:=Tryz.func135 }
def q138:FA Tryz.f138:=⟨_,by conv=>lhs;cbv⟩
def PH:=q138.1
theorem g138:GK 138 Tryz.f138 PH:={ c:=q138.2,f:=Tryz.func138 }
def q141:FA Tryz.f141:=⟨_,by conv=>lhs;cbv⟩
def YF:=q141.1
theorem g141:GK 141 Tryz.f141 YF:={ c:=q141.2,f:=Tryz.func141 }
def q143:FA Tryz.f143:=⟨_,by conv=>lhs;cbv⟩
def PE:=q143.1
theorem g143:GK 143 Tryz.f143 PE:={ c:=q143.2,f:=Tryz.func143 }
def q144:FA Tryz.f144:=⟨_,by conv=>lhs;cbv⟩
def Tn:=q144.1
theorem g144:GK 144 Tryz.f144 Tn:={ c:=q144.2,f:=Tryz.func144 }
def q146:FA Tryz.f146:=⟨_,by conv=>lhs;cbv⟩
def Tm:=q146.1
theorem g146:GK 146 Tryz.f146 Tm:={ c:=q146.2,f:=Tryz.func146 }
def q150:FA Tryz.f150:=⟨_,by conv=>lhs;cbv⟩
def Tk:=q150.1
theorem g150:GK 150 Tryz.f150 Tk:={ c:=q150.2,f:=Tryz.func150 }
def q162:FA Tryz.f162:=⟨_,by conv=>lhs;cbv⟩
def Ta:=q162.1
theorem g162:GK 162 Tryz.f162 Ta:={ c:=q162.2,f:=Tryz.func162 }
def q163:FA Tryz.f163:=⟨_,by conv=>lhs;cbv⟩
def P9:=q163.1
theorem g163:GK 163 Tryz.f163 P9:={ c:=q163.2,f:=Tryz.func163 }
def q165:FA Tryz.f165:=⟨_,by conv=>lhs;cbv⟩
def a165:=q165.1
theorem g165:GK 165 Tryz.f165 a165:={ c:=q165.2,f:=Tryz.func165 }
def q166:FA Tryz.f166:=⟨_,by conv=>lhs;cbv⟩
def a166:=q166.1
theorem g166:GK 166 Tryz.f166 a166:={ c:=q166.2,f:=Tryz.func166 }
def q177:FA Tryz.f177:=⟨_,by conv=>lhs;cbv⟩
def P7:=q177.1
theorem g177:GK 177 Tryz.f177 P7:={ c:=q177.2,f:=Tryz.func177 }
def q189:FA Tryz.f189:=⟨_,by conv=>lhs;cbv⟩
def SU:=q189.1
theorem g189:GK 189 Tryz.f189 SU:={ c:=q189.2,f:=Tryz.func189 }
def q201:FA Tryz.f201:=⟨_,by conv=>lhs;cbv⟩
def Pz:=q201.1
theorem g201:GK 201 Tryz.f201 Pz:={ c:=q201.2,f:=Tryz.func201 }
def q209:FA Tryz.f209:=⟨_,by conv=>lhs;cbv⟩
def SK:=q209.1
theorem g209:GK 209 Tryz.f209 SK:={ c:=q209.2,f:=Tryz.func209 }
def q213:FA Tryz.f213:=⟨_,by conv=>lhs;cbv⟩
def Pr:=q213.1
theorem g213:GK 213 Tryz.f213 Pr:={ c:=q213.2,f:=Tryz.func213 }
def q217:FA Tryz.f217:=⟨_,by conv=>lhs;cbv⟩
def Pn:=q217.1
theorem g217:GK 217 Tryz.f217 Pn:={ c:=q217.2,f:=Tryz.func217 }
def q221:FA Tryz.f221:=⟨_,by conv=>lhs;cbv⟩
def Pj:=q221.1
theorem g221:GK 221 Tryz.f221 Pj:={ c:=q221.2,f:=Tryz.func221 }
end X
end
end Go.AM
