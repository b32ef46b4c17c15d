/- Contracts of functions over the abstract machine. No conditions. -/
import Derived.Test.YtacmbogmbfmjeaaGreatXN
set_option maxRecDepth 100000
namespace Go.AM
noncomputable section
open Go.Proofs
namespace X
def q4:FA Tryz.f4:=⟨_,by conv=>lhs;cbv⟩
def a4:=q4.1
theorem g4:GK 4 Tryz.f4 a4:={ c:=q4.2,f:=Tryz.func4 }
def q6:FA Tryz.f6:=⟨_,by conv=>lhs;cbv⟩
def a6:=q6.1
theorem g6:GK 6 Tryz.f6 a6:={ c:=q6.2,f:=Tryz.func6 }
def q8:FA Tryz.f8:=⟨_,by conv=>lhs;cbv⟩
def a8:=q8.1
theorem g8:GK 8 Tryz.f8 a8:={ c:=q8.2,f:=Tryz.func8 }
def q19:FA Tryz.f19:=⟨_,by conv=>lhs;cbv⟩
def HZ:=q19.1
theorem g19:GK 19 Tryz.f19 HZ:={ c:=q19.2,f:=Tryz.func19 }
def q24:FA Tryz.f24:=⟨_,by conv=>lhs;cbv⟩
def a24:=q24.1
theorem g24:GK 24 Tryz.f24 a24:={ c:=q24.2,f:=Tryz.func24 }
def q26:FA Tryz.f26:=⟨_,by conv=>lhs;cbv⟩
def a26:=q26.1
theorem g26:GK 26 Tryz.f26 a26:={ c:=q26.2,f:=Tryz.func26 }
def q41:FA Tryz.f41:=⟨_,by conv=>lhs;cbv⟩
def a41:=q41.1
theorem g41:GK 41 Tryz.f41 a41:={ c:=q41.2,f:=Tryz.func41 }
def q45:FA Tryz.f45:=⟨_,by conv=>lhs;cbv⟩
def a45:=q45.1
theorem g45:GK 45 Tryz.f45 a45:={ c:=q45.2,f:=Tryz.func45 }
def q53:FA Tryz.f53:=⟨_,by conv=>lhs;cbv⟩
def a53:=q53.1
theorem g53:GK 53 Tryz.f53 a53:={ c:=q53.2,f:=Tryz.func53 }
def q54:FA Tryz.f54:=⟨_,by conv=>lhs;cbv⟩
def a54:=q54.1
theorem g54:GK 54 Tryz.f54 a54:={ c:=q54.2,f:=Tryz.func54 }
def q55:FA Tryz.f55:=⟨_,by conv=>lhs;cbv⟩
def a55:=q55.1
theorem g55:GK 55 Tryz.f55 a55:={ c:=q55.2,f:=Tryz.func55 }
def q70:FA Tryz.f70:=⟨_,by conv=>lhs;cbv⟩
def a70:=q70.1
theorem g70:GK 70 Tryz.f70 a70:={ c:=q70.2,f:=Tryz.func70 }
def q71:FA Tryz.f71:=⟨_,by conv=>lhs;cbv⟩
def a71:=q71.1
theorem g71:GK 71 Tryz.f71 a71:={ c:=q71.2,f:=Tryz.func71 }
def q72:FA Tryz.f72:=⟨_,by conv=>lhs;cbv⟩
def a72:=q72.1
theorem g72:GK 72 Tryz.f72 a72:={ c:=q72.2,f:=Tryz.func72 }
def q88:FA Tryz.f88:=⟨_,by conv=>lhs;cbv⟩
def NC:=q88.1
theorem g88:GK 88 Tryz.f88 NC:={ c:=q88.2,f:=Tryz.func88 }
def q92:FA Tryz.f92:=⟨_,by conv=>lhs;cbv⟩
def a92:=q92.1
theorem g92:GK 92 Tryz.f92 a92:={ c:=q92.2,f:=Tryz.func92 }
def q97:FA Tryz.f97:=⟨_,by conv=>lhs;cbv⟩
def a97:=q97.1
theorem g97:GK 97 Tryz.f97 a97:={ c:=q97.2,f:=Tryz.func97 }
def q101:FA Tryz.f101:=⟨_,by conv=>lhs;cbv⟩
def Q7:=q101.1
theorem g101:GK 101 Tryz.f101 Q7:={ c:=q101.2,f:=Tryz.func101 }
def q113:FA Tryz.f113:=⟨_,by conv=>lhs;cbv⟩
def Q0:=q113.1
theorem g113:GK 113 Tryz.f113 Q0:={ c:=q113.2,f:=Tryz.func113 }
def q119:FA Tryz.f119:=⟨_,by conv=>lhs;cbv⟩
def Qx:=q119.1
theorem g119:GK 119 Tryz.f119 Qx:={ c:=q119.2,f:=Tryz.func119 }
def q121:FA Tryz.f121:=⟨_,by conv=>lhs;cbv⟩
def a121:=q121.1
theorem g121:GK 121 Tryz.f121 a121:={ c:=q121.2,f:=Tryz.func121 }
def q132:FA Tryz.f132:=⟨_,by conv=>lhs;cbv⟩
def a132:=q132.1
theorem g132:GK 132 Tryz.f132 a132:={ c:=q132.2,f:=Tryz.func132 }
def q138:FA Tryz.f138:=⟨_,by conv=>lhs;cbv⟩
def Qu:=q138.1
theorem g138:GK 138 Tryz.f138 Qu:={ c:=q138.2,f:=Tryz.func138 }
def q146:FA Tryz.f146:=⟨_,by conv=>lhs;cbv⟩
def Ua:=q146.1
theorem g146:GK 146 Tryz.f146 Ua:={ c:=q146.2,f:=Tryz.func146 }
def q159:FA Tryz.f159:=⟨_,by conv=>lhs;cbv⟩
def TQ:=q159.1
theorem g159:GK 159 Tryz.f159 TQ:={ c:=q159.2,f:=Tryz.func159 }
def q167:FA Tryz.f167:=⟨_,by conv=>lhs;cbv⟩
def a167:=q167.1
theorem g167:GK 167 Tryz.f167 a167:={ c:=q167.2,f:=Tryz.func167 }
def q171:FA Tryz.f171:=⟨_,by conv=>lhs;cbv⟩
def a171:=q171.1
theorem g171:GK 171 Tryz.f171 a171:={ c:=q171.2,f:=Tryz.func171 }
def q187:FA Tryz.f187:=⟨_,by conv=>lhs;cbv⟩
def Qe:=q187.1
theorem g187:GK 187 Tryz.f187 Qe:={ c:=q187.2,f:=Tryz.func187 }
def q193:FA Tryz.f193:=⟨_,by conv=>lhs;cbv⟩
def TF:=q193.1
theorem g193:GK 193 Tryz.f193 TF:={ c:=q193.2,f:=Tryz.func193 }
def q202:FA Tryz.f202:=⟨_,by conv=>lhs;cbv⟩
def Z0:=q202.1
theorem g202:GK 202 Tryz.f202 Z0:={ c:=q202.2,f:=Tryz.func202 }
def q203:FA Tryz.f203:=⟨_,by conv=>lhs;cbv⟩
def TD:=q203.1
theorem g203:GK 203 Tryz.f203 TD:={ c:=q203.2,f:=Tryz.func203 }
def q209:FA Tryz.f209:=⟨_,by conv=>lhs;cbv⟩
def TA:=q209.1
theorem g209:GK 209 Tryz.f209 TA:={ c:=q209.2,f:=Tryz.func209 }
def q210:FA Tryz.f210:=⟨_,by conv=>lhs;cbv⟩
def PY:=q210.1
theorem g210:GK 210 Tryz.f210 PY:={ c:=q210.2,f:=Tryz.func210 }
def q220:FA Tryz.f220:=⟨_,by conv=>lhs;cbv⟩
def PN:=q220.1
theorem g220:GK 220 Tryz.f220 PN:={ c:=q220.2,f:=Tryz.func220 }
def q222:FA Tryz.f222:=⟨_,by conv=>lhs;cbv⟩
def JY:=q222.1
theorem g222:GK 222 Tryz.f222 JY:={ c:=q222.2,f:=Tryz.func222 }
end X
end
end Go.AM
