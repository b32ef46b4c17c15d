/-
 Functions of the program as the abstract machine reads them, and what is stated of them, checked by the kernel. No conditions.
-/
import Derived.Test.YtacmbogmbfmjeaaGreatXN
set_option linter.unusedVariables false
set_option linter.unusedSimpArgs false
set_option linter.unnecessarySimpa false
set_option maxRecDepth 100000
namespace Go.AM
noncomputable section
open Go.Proofs
namespace X
def q8:FA Tryz.f8:=⟨_,by conv=>lhs;cbv⟩
def a8:=q8.1
theorem g8:GK 8 Tryz.f8 a8:={ c:=q8.2,f:=Tryz.func8 }
def q22:FA Tryz.f22:=⟨_,by conv=>lhs;cbv⟩
def a22:=q22.1
theorem g22:GK 22 Tryz.f22 a22:={ c:=q22.2,f:=Tryz.func22 }
def q28:FA Tryz.f28:=⟨_,by conv=>lhs;cbv⟩
def a28:=q28.1
theorem g28:GK 28 Tryz.f28 a28:={ c:=q28.2,f:=Tryz.func28 }
def q36:FA Tryz.f36:=⟨_,by conv=>lhs;cbv⟩
def a36:=q36.1
theorem g36:GK 36 Tryz.f36 a36:={ c:=q36.2,f:=Tryz.func36 }
def q44:FA Tryz.f44:=⟨_,by conv=>lhs;cbv⟩
def a44:=q44.1
theorem g44:GK 44 Tryz.f44 a44:={ c:=q44.2,f:=Tryz.func44 }
def q58:FA Tryz.f58:=⟨_,by conv=>lhs;cbv⟩
def a58:=q58.1
theorem g58:GK 58 Tryz.f58 a58:={ c:=q58.2,f:=Tryz.func58 }
def q60:FA Tryz.f60:=⟨_,by conv=>lhs;cbv⟩
def Lp:=q60.1
theorem g60:GK 60 Tryz.f60 Lp:={ c:=q60.2,f:=Tryz.func60 }
def q62:FA Tryz.f62:=⟨_,by conv=>lhs;cbv⟩
def a62:=q62.1
theorem g62:GK 62 Tryz.f62 a62:={ c:=q62.2,f:=Tryz.func62 }
def q64:FA Tryz.f64:=⟨_,by conv=>lhs;cbv⟩
def a64:=q64.1
theorem g64:GK 64 Tryz.f64 a64:={ c:=q64.2,f:=Tryz.func64 }
def q66:FA Tryz.f66:=⟨_,by conv=>lhs;cbv⟩
def Ll:=q66.1
theorem g66:GK 66 Tryz.f66 Ll:={ c:=q66.2,f:=Tryz.func66 }
def q75:FA Tryz.f75:=⟨_,by conv=>lhs;cbv⟩
def a75:=q75.1
theorem g75:GK 75 Tryz.f75 a75:={ c:=q75.2,f:=Tryz.func75 }
def q83:FA Tryz.f83:=⟨_,by conv=>lhs;cbv⟩
def a83:=q83.1
theorem g83:GK 83 Tryz.f83 a83:={ c:=q83.2,f:=Tryz.func83 }
def q93:FA Tryz.f93:=⟨_,by conv=>lhs;cbv⟩
def a93:=q93.1
theorem g93:GK 93 Tryz.f93 a93:={ c:=q93.2,f:=Tryz.func93 }
def q99:FA Tryz.f99:=⟨_,by conv=>lhs;cbv⟩
def a99:=q99.1
theorem g99:GK 99 Tryz.f99 a99:={ c:=q99.2,f:=Tryz.func99 }
def q115:FA Tryz.f115:=⟨_,by conv=>lhs;cbv⟩
def N0:=q115.1
theorem g115:GK 115 Tryz.f115 N0:={ c:=q115.2,f:=Tryz.func115 }
def q116:FA Tryz.f116:=⟨_,by conv=>lhs;cbv⟩
def QT:=q116.1
theorem g116:GK 116 Tryz.f116 QT:={ c:=q116.2,f:=Tryz.func116 }
def q119:FA Tryz.f119:=⟨_,by conv=>lhs;cbv⟩
def Nz:=q119.1
theorem g119:GK 119 Tryz.f119 Nz:={ c:=q119.2,f:=Tryz.func119 }
def q121:FA Tryz.f121:=⟨_,by conv=>lhs;cbv⟩
def a121:=q121.1
theorem g121:GK 121 Tryz.f121 a121:={ c:=q121.2,f:=Tryz.func121 }
def q122:FA Tryz.f122:=⟨_,by conv=>lhs;cbv⟩
def a122:=q122.1
theorem g122:GK 122 Tryz.f122 a122:={ c:=q122.2,f:=Tryz.func122 }
def q123:FA Tryz.f123:=⟨_,by conv=>lhs;cbv⟩
def a123:=q123.1
theorem g123:GK 123 Tryz.f123 a123:={ c:=q123.2,f:=Tryz.func123 }
def q125:FA Tryz.f125:=⟨_,by conv=>lhs;cbv⟩
def a125:=q125.1
theorem g125:GK 125 Tryz.f125 a125:={ c:=q125.2,f:=Tryz.func125 }
def q126:FA Tryz.f126:=⟨_,by conv=>lhs;cbv⟩
def a126:=q126.1
theorem g126:GK 126 Tryz.f126 a126:={ c:=q126.2,f:=Tryz.func126 }
def q134:FA Tryz.f134:=⟨_,by conv=>lhs;cbv⟩
def QP:=q134.1
theorem g134:GK 134 Tryz.f134 QP:={ c:=q134.2,f:=Tryz.func134 }
def q144:FA Tryz.f144:=⟨_,by conv=>lhs;cbv⟩
def QK:=q144.1
theorem g144:GK 144 Tryz.f144 QK:={ c:=q144.2,f:=Tryz.func144 }
def q154:FA Tryz.f154:=⟨_,by conv=>lhs;cbv⟩
def QF:=q154.1
theorem g154:GK 154 Tryz.f154 QF:={ c:=q154.2,f:=Tryz.func154 }
def q163:FA Tryz.f163:=⟨_,by conv=>lhs;cbv⟩
def Nn:=q163.1
theorem g163:GK 163 Tryz.f163 Nn:={ c:=q163.2,f:=Tryz.func163 }
def q165:FA Tryz.f165:=⟨_,by conv=>lhs;cbv⟩
def a165:=q165.1
theorem g165:GK 165 Tryz.f165 a165:={ c:=q165.2,f:=Tryz.func165 }
def q166:FA Tryz.f166:=⟨_,by conv=>lhs;cbv⟩
def a166:=q166.1
theorem g166:GK 166 Tryz.f166 a166:={ c:=q166.2,f:=Tryz.func166 }
def q176:FA Tryz.f176:=⟨_,by conv=>lhs;cbv⟩
def a176:=q176.1
theorem g176:GK 176 Tryz.f176 a176:={ c:=q176.2,f:=Tryz.func176 }
def q185:FA Tryz.f185:=⟨_,by conv=>lhs;cbv⟩
def KY:=q185.1
theorem g185:GK 185 Tryz.f185 KY:={ c:=q185.2,f:=Tryz.func185 }
def q190:FA Tryz.f190:=⟨_,by conv=>lhs;cbv⟩
def Qx:=q190.1
theorem g190:GK 190 Tryz.f190 Qx:={ c:=q190.2,f:=Tryz.func190 }
def q192:FA Tryz.f192:=⟨_,by conv=>lhs;cbv⟩
def Nh:=q192.1
theorem g192:GK 192 Tryz.f192 Nh:={ c:=q192.2,f:=Tryz.func192 }
def q198:FA Tryz.f198:=⟨_,by conv=>lhs;cbv⟩
def a198:=q198.1
theorem g198:GK 198 Tryz.f198 a198:={ c:=q198.2,f:=Tryz.func198 }
def q200:FA Tryz.f200:=⟨_,by conv=>lhs;cbv⟩
def a200:=q200.1
theorem g200:GK 200 Tryz.f200 a200:={ c:=q200.2,f:=Tryz.func200 }
def q216:FA Tryz.f216:=⟨_,by conv=>lhs;cbv⟩
def Qn:=q216.1
theorem g216:GK 216 Tryz.f216 Qn:={ c:=q216.2,f:=Tryz.func216 }
end X
end
end Go.AM
