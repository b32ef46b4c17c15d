/- Contracts of functions over the abstract machine. No conditions. -/
import Derived.Test.YtacmbogmbfmjeaaGreatXN
set_option maxRecDepth 100000
namespace Go.AM
noncomputable section
open Go.Proofs
namespace X
def q16:FA Tryz.f16:=⟨_,by conv=>lhs;cbv⟩
def Ki:=q16.1
theorem g16:GK 16 Tryz.f16 Ki:={ c:=q16.2,f:=Tryz.func16 }
def q28:FA Tryz.f28:=⟨_,by conv=>lhs;cbv⟩
def a28:=q28.1
theorem g28:GK 28 Tryz.f28 a28:={ c:=q28.2,f:=Tryz.func28 }
def q65:FA Tryz.f65:=⟨_,by conv=>lhs;cbv⟩
def a65:=q65.1
theorem g65:GK 65 Tryz.f65 a65:={ c:=q65.2,f:=Tryz.func65 }
def q68:FA Tryz.f68:=⟨_,by conv=>lhs;cbv⟩
def a68:=q68.1
theorem g68:GK 68 Tryz.f68 a68:={ c:=q68.2,f:=Tryz.func68 }
def q74:FA Tryz.f74:=⟨_,by conv=>lhs;cbv⟩
def a74:=q74.1
theorem g74:GK 74 Tryz.f74 a74:={ c:=q74.2,f:=Tryz.func74 }
def q76:FA Tryz.f76:=⟨_,by conv=>lhs;cbv⟩
def a76:=q76.1
theorem g76:GK 76 Tryz.f76 a76:={ c:=q76.2,f:=Tryz.func76 }
def q78:FA Tryz.f78:=⟨_,by conv=>lhs;cbv⟩
def a78:=q78.1
theorem g78:GK 78 Tryz.f78 a78:={ c:=q78.2,f:=Tryz.func78 }
def q80:FA Tryz.f80:=⟨_,by conv=>lhs;cbv⟩
def a80:=q80.1
theorem g80:GK 80 Tryz.f80 a80:={ c:=q80.2,f:=Tryz.func80 }
def q86:FA Tryz.f86:=⟨_,by conv=>lhs;cbv⟩
def a86:=q86.1
theorem g86:GK 86 Tryz.f86 a86:={ c:=q86.2,f:=Tryz.func86 }
def q87:FA Tryz.f87:=⟨_,by conv=>lhs;cbv⟩
def a87:=q87.1
theorem g87:GK 87 Tryz.f87 a87:={ c:=q87.2,f:=Tryz.func87 }
def q103:FA Tryz.f103:=⟨_,by conv=>lhs;cbv⟩
def Q5:=q103.1
theorem g103:GK 103 Tryz.f103 Q5:={ c:=q103.2,f:=Tryz.func103 }
def q109:FA Tryz.f109:=⟨_,by conv=>lhs;cbv⟩
def Q2:=q109.1
theorem g109:GK 109 Tryz.f109 Q2:={ c:=q109.2,f:=Tryz.func109 }
def q110:FA Tryz.f110:=⟨_,by conv=>lhs;cbv⟩
def Ul:=q110.1
theorem g110:GK 110 Tryz.f110 Ul:={ c:=q110.2,f:=Tryz.func110 }
def q118:FA Tryz.f118:=⟨_,by conv=>lhs;cbv⟩
def Uh:=q118.1
theorem g118:GK 118 Tryz.f118 Uh:={ c:=q118.2,f:=Tryz.func118 }
def q133:FA Tryz.f133:=⟨_,by conv=>lhs;cbv⟩
def Ug:=q133.1
theorem g133:GK 133 Tryz.f133 Ug:={ c:=q133.2,f:=Tryz.func133 }
def q134:FA Tryz.f134:=⟨_,by conv=>lhs;cbv⟩
def Qv:=q134.1
theorem g134:GK 134 Tryz.f134 Qv:={ c:=q134.2,f:=Tryz.func134 }
def q135:FA Tryz.f135:=⟨_,by conv=>lhs;cbv⟩
def Uf:=q135.1
theorem g135:GK 135 Tryz.f135 Uf:={ c:=q135.2,f:=Tryz.func135 }
def q150:FA Tryz.f150:=⟨_,by conv=>lhs;cbv⟩
def TY:=q150.1
theorem g150:GK 150 Tryz.f150 TY:={ c:=q150.2,f:=Tryz.func150 }
def q151:FA Tryz.f151:=⟨_,by conv=>lhs;cbv⟩
def Qo:=q151.1
theorem g151:GK 151 Tryz.f151 Qo:={ c:=q151.2,f:=Tryz.func151 }
def q152:FA Tryz.f152:=⟨_,by conv=>lhs;cbv⟩
def Qn:=q152.1
theorem g152:GK 152 Tryz.f152 Qn:={ c:=q152.2,f:=Tryz.func152 }
def q153:FA Tryz.f153:=⟨_,by conv=>lhs;cbv⟩
def TX:=q153.1
theorem g153:GK 153 Tryz.f153 TX:={ c:=q153.2,f:=Tryz.func153 }
def q155:FA Tryz.f155:=⟨_,by conv=>lhs;cbv⟩
def TV:=q155.1
theorem g155:GK 155 Tryz.f155 TV:={ c:=q155.2,f:=Tryz.func155 }
def q157:FA Tryz.f157:=⟨_,by conv=>lhs;cbv⟩
def TT:=q157.1
theorem g157:GK 157 Tryz.f157 TT:={ c:=q157.2,f:=Tryz.func157 }
def q165:FA Tryz.f165:=⟨_,by conv=>lhs;cbv⟩
def a165:=q165.1
theorem g165:GK 165 Tryz.f165 a165:={ c:=q165.2,f:=Tryz.func165 }
def q166:FA Tryz.f166:=⟨_,by conv=>lhs;cbv⟩
def a166:=q166.1
theorem g166:GK 166 Tryz.f166 a166:={ c:=q166.2,f:=Tryz.func166 }
def q169:FA Tryz.f169:=⟨_,by conv=>lhs;cbv⟩
def a169:=q169.1
theorem g169:GK 169 Tryz.f169 a169:={ c:=q169.2,f:=Tryz.func169 }
def q176:FA Tryz.f176:=⟨_,by conv=>lhs;cbv⟩
def a176:=q176.1
theorem g176:GK 176 Tryz.f176 a176:={ c:=q176.2,f:=Tryz.func176 }
def q179:FA Tryz.f179:=⟨_,by conv=>lhs;cbv⟩
def Qj:=q179.1
theorem g179:GK 179 Tryz.f179 Qj:={ c:=q179.2,f:=Tryz.func179 }
def q191:FA Tryz.f191:=⟨_,by conv=>lhs;cbv⟩
def TG:=q191.1
theorem g191:GK 191 Tryz.f191 TG:={ c:=q191.2,f:=Tryz.func191 }
def q200:FA Tryz.f200:=⟨_,by conv=>lhs;cbv⟩
def a200:=q200.1
theorem g200:GK 200 Tryz.f200 a200:={ c:=q200.2,f:=Tryz.func200 }
def q211:FA Tryz.f211:=⟨_,by conv=>lhs;cbv⟩
def PX:=q211.1
theorem g211:GK 211 Tryz.f211 PX:={ c:=q211.2,f:=Tryz.func211 }
def q212:FA Tryz.f212:=⟨_,by conv=>lhs;cbv⟩
def PW:=q212.1
theorem g212:GK 212 Tryz.f212 PW:={ c:=q212.2,f:=Tryz.func212 }
def q214:FA Tryz.f214:=⟨_,by conv=>lhs;cbv⟩
def PU:=q214.1
theorem g214:GK 214 Tryz.f214 PU:={ c:=q214.2,f:=Tryz.func214 }
def q215:FA Tryz.f215:=⟨_,by conv=>lhs;cbv⟩
def PT:=q215.1
theorem g215:GK 215 Tryz.f215 PT:={ c:=q215.2,f:=Tryz.func215 }
def q219:FA Tryz.f219:=⟨_,by conv=>lhs;cbv⟩
def PO:=q219.1
theorem g219:GK 219 Tryz.f219 PO:={ c:=q219.2,f:=Tryz.func219 }
end X
end
end Go.AM
