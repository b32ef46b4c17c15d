/- Contracts of functions over the abstract machine. No conditions. -/
import Derived.Test.YtacmbogmbfmjeaaGreatXN
set_option maxRecDepth 100000
namespace Go.AM
noncomputable section
open Go.Proofs
namespace X
def q11:FA Tryz.f11:=⟨_,by conv=>lhs;cbv⟩
def a11:=q11.1
theorem g11:GK 11 Tryz.f11 a11:={ c:=q11.2,f:=Tryz.func11 }
def q18:FA Tryz.f18:=⟨_,by conv=>lhs;cbv⟩
def Ia:=q18.1
theorem g18:GK 18 Tryz.f18 Ia:={ c:=q18.2,f:=Tryz.func18 }
def q35:FA Tryz.f35:=⟨_,by conv=>lhs;cbv⟩
def a35:=q35.1
theorem g35:GK 35 Tryz.f35 a35:={ c:=q35.2,f:=Tryz.func35 }
def q36:FA Tryz.f36:=⟨_,by conv=>lhs;cbv⟩
def a36:=q36.1
theorem g36:GK 36 Tryz.f36 a36:={ c:=q36.2,f:=Tryz.func36 }
def q40:FA Tryz.f40:=⟨_,by conv=>lhs;cbv⟩
def NG:=q40.1
theorem g40:GK 40 Tryz.f40 NG:={ c:=q40.2,f:=Tryz.func40 }
def q44:FA Tryz.f44:=⟨_,by conv=>lhs;cbv⟩
def a44:=q44.1
theorem g44:GK 44 Tryz.f44 a44:={ c:=q44.2,f:=Tryz.func44 }
def q47:FA Tryz.f47:=⟨_,by conv=>lhs;cbv⟩
def a47:=q47.1
theorem g47:GK 47 Tryz.f47 a47:={ c:=q47.2,f:=Tryz.func47 }
def q58:FA Tryz.f58:=⟨_,by conv=>lhs;cbv⟩
def a58:=q58.1
theorem g58:GK 58 Tryz.f58 a58:={ c:=q58.2,f:=Tryz.func58 }
def q61:FA Tryz.f61:=⟨_,by conv=>lhs;cbv⟩
def a61:=q61.1
theorem g61:GK 61 Tryz.f61 a61:={ c:=q61.2,f:=Tryz.func61 }
def q63:FA Tryz.f63:=⟨_,by conv=>lhs;cbv⟩
def NE:=q63.1
theorem g63:GK 63 Tryz.f63 NE:={ c:=q63.2,f:=Tryz.func63 }
def q64:FA Tryz.f64:=⟨_,by conv=>lhs;cbv⟩
def a64:=q64.1
theorem g64:GK 64 Tryz.f64 a64:={ c:=q64.2,f:=Tryz.func64 }
def q66:FA Tryz.f66:=⟨_,by conv=>lhs;cbv⟩
def ND:=q66.1
theorem g66:GK 66 Tryz.f66 ND:={ c:=q66.2,f:=Tryz.func66 }
def q67:FA Tryz.f67:=⟨_,by conv=>lhs;cbv⟩
def a67:=q67.1
theorem g67:GK 67 Tryz.f67 a67:={ c:=q67.2,f:=Tryz.func67 }
def q73:FA Tryz.f73:=⟨_,by conv=>lhs;cbv⟩
def a73:=q73.1
theorem g73:GK 73 Tryz.f73 a73:={ c:=q73.2,f:=Tryz.func73 }
def q82:FA Tryz.f82:=⟨_,by conv=>lhs;cbv⟩
def a82:=q82.1
theorem g82:GK 82 Tryz.f82 a82:={ c:=q82.2,f:=Tryz.func82 }
def q89:FA Tryz.f89:=⟨_,by conv=>lhs;cbv⟩
def a89:=q89.1
theorem g89:GK 89 Tryz.f89 a89:={ c:=q89.2,f:=Tryz.func89 }
def q91:FA Tryz.f91:=⟨_,by conv=>lhs;cbv⟩
def NA:=q91.1
theorem g91:GK 91 Tryz.f91 NA:={ c:=q91.2,f:=Tryz.func91 }
def q99:FA Tryz.f99:=⟨_,by conv=>lhs;cbv⟩
def a99:=q99.1
theorem g99:GK 99 Tryz.f99 a99:={ c:=q99.2,f:=Tryz.func99 }
def q105:FA Tryz.f105:=⟨_,by conv=>lhs;cbv⟩
def Un:=q105.1
theorem g105:GK 105 Tryz.f105 Un:={ c:=q105.2,f:=Tryz.func105 }
def q111:FA Tryz.f111:=⟨_,by conv=>lhs;cbv⟩
def Q1:=q111.1
theorem g111:GK 111 Tryz.f111 Q1:={ c:=q111.2,f:=Tryz.func111 }
def q114:FA Tryz.f114:=⟨_,by conv=>lhs;cbv⟩
def Qz:=q114.1
theorem g114:GK 114 Tryz.f114 Qz:={ c:=q114.2,f:=Tryz.func114 }
def q124:FA Tryz.f124:=⟨_,by conv=>lhs;cbv⟩
def a124:=q124.1
theorem g124:GK 124 Tryz.f124 a124:={ c:=q124.2,f:=Tryz.func124 }
def q128:FA Tryz.f128:=⟨_,by conv=>lhs;cbv⟩
def N1:=q128.1
theorem g128:GK 128 Tryz.f128 N1:={ c:=q128.2,f:=Tryz.func128 }
def q136:FA Tryz.f136:=⟨_,by conv=>lhs;cbv⟩
def Ue:=q136.1
theorem g136:GK 136 Tryz.f136 Ue:={ c:=q136.2,f:=Tryz.func136 }
def q137:FA Tryz.f137:=⟨_,by conv=>lhs;cbv⟩
def Ud:=q137.1
theorem g137:GK 137 Tryz.f137 Ud:={ c:=q137.2,f:=Tryz.func137 }
def q143:FA Tryz.f143:=⟨_,by conv=>lhs;cbv⟩
def Qr:=q143.1
theorem g143:GK 143 Tryz.f143 Qr:={ c:=q143.2,f:=Tryz.func143 }
def q144:FA Tryz.f144:=⟨_,by conv=>lhs;cbv⟩
def Ub:=q144.1
theorem g144:GK 144 Tryz.f144 Ub:={ c:=q144.2,f:=Tryz.func144 }
def q161:FA Tryz.f161:=⟨_,by conv=>lhs;cbv⟩
def TO:=q161.1
theorem g161:GK 161 Tryz.f161 TO:={ c:=q161.2,f:=Tryz.func161 }
def q177:FA Tryz.f177:=⟨_,by conv=>lhs;cbv⟩
def Qk:=q177.1
theorem g177:GK 177 Tryz.f177 Qk:={ c:=q177.2,f:=Tryz.func177 }
def q178:FA Tryz.f178:=⟨_,by conv=>lhs;cbv⟩
def TL:=q178.1
theorem g178:GK 178 Tryz.f178 TL:={ c:=q178.2,f:=Tryz.func178 }
def q183:FA Tryz.f183:=⟨_,by conv=>lhs;cbv⟩
def Qh:=q183.1
theorem g183:GK 183 Tryz.f183 Qh:={ c:=q183.2,f:=Tryz.func183 }
def q186:FA Tryz.f186:=⟨_,by conv=>lhs;cbv⟩
def Qf:=q186.1
theorem g186:GK 186 Tryz.f186 Qf:={ c:=q186.2,f:=Tryz.func186 }
def q192:FA Tryz.f192:=⟨_,by conv=>lhs;cbv⟩
def Qd:=q192.1
theorem g192:GK 192 Tryz.f192 Qd:={ c:=q192.2,f:=Tryz.func192 }
def q206:FA Tryz.f206:=⟨_,by conv=>lhs;cbv⟩
def Qb:=q206.1
theorem g206:GK 206 Tryz.f206 Qb:={ c:=q206.2,f:=Tryz.func206 }
def q216:FA Tryz.f216:=⟨_,by conv=>lhs;cbv⟩
def PS:=q216.1
theorem g216:GK 216 Tryz.f216 PS:={ c:=q216.2,f:=Tryz.func216 }
end X
end
end Go.AM
