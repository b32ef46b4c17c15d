/- Contracts of functions over the abstract machine. No conditions. -/
import Derived.Test.YtacmbogmbfmjeaaGreatXN
set_option maxRecDepth 100000
namespace Go.AM
noncomputable section
open Go.Proofs
namespace X
def q7:FA Tryz.f7:=⟨_,by conv=>lhs;cbv⟩
def a7:=q7.1
theorem g7:GK 7 Tryz.f7 a7:={ c:=q7.2,f:=Tryz.func7 }
def q22:FA Tryz.f22:=⟨_,by conv=>lhs;cbv⟩
def HW:=q22.1
theorem g22:GK 22 Tryz.f22 HW:={ c:=q22.2,f:=Tryz.func22 }
def q29:FA Tryz.f29:=⟨_,by conv=>lhs;cbv⟩
def a29:=q29.1
theorem g29:GK 29 Tryz.f29 a29:={ c:=q29.2,f:=Tryz.func29 }
def q33:FA Tryz.f33:=⟨_,by conv=>lhs;cbv⟩
def a33:=q33.1
theorem g33:GK 33 Tryz.f33 a33:={ c:=q33.2,f:=Tryz.func33 }
def q34:FA Tryz.f34:=⟨_,by conv=>lhs;cbv⟩
def a34:=q34.1
theorem g34:GK 34 Tryz.f34 a34:={ c:=q34.2,f:=Tryz.func34 }
def q43:FA Tryz.f43:=⟨_,by conv=>lhs;cbv⟩
def a43:=q43.1
theorem g43:GK 43 Tryz.f43 a43:={ c:=q43.2,f:=Tryz.func43 }
def q50:FA Tryz.f50:=⟨_,by conv=>lhs;cbv⟩
def a50:=q50.1
theorem g50:GK 50 Tryz.f50 a50:={ c:=q50.2,f:=Tryz.func50 }
def q56:FA Tryz.f56:=⟨_,by conv=>lhs;cbv⟩
def a56:=q56.1
theorem g56:GK 56 Tryz.f56 a56:={ c:=q56.2,f:=Tryz.func56 }
def q75:FA Tryz.f75:=⟨_,by conv=>lhs;cbv⟩
def a75:=q75.1
theorem g75:GK 75 Tryz.f75 a75:={ c:=q75.2,f:=Tryz.func75 }
def q79:FA Tryz.f79:=⟨_,by conv=>lhs;cbv⟩
def a79:=q79.1
theorem g79:GK 79 Tryz.f79 a79:={ c:=q79.2,f:=Tryz.func79 }
def q93:FA Tryz.f93:=⟨_,by conv=>lhs;cbv⟩
def a93:=q93.1
theorem g93:GK 93 Tryz.f93 a93:={ c:=q93.2,f:=Tryz.func93 }
def q96:FA Tryz.f96:=⟨_,by conv=>lhs;cbv⟩
def a96:=q96.1
theorem g96:GK 96 Tryz.f96 a96:={ c:=q96.2,f:=Tryz.func96 }
def q98:FA Tryz.f98:=⟨_,by conv=>lhs;cbv⟩
def a98:=q98.1
theorem g98:GK 98 Tryz.f98 a98:={ c:=q98.2,f:=Tryz.func98 }
def q112:FA Tryz.f112:=⟨_,by conv=>lhs;cbv⟩
def Uk:=q112.1
theorem g112:GK 112 Tryz.f112 Uk:={ c:=q112.2,f:=Tryz.func112 }
def q115:FA Tryz.f115:=⟨_,by conv=>lhs;cbv⟩
def Qy:=q115.1
theorem g115:GK 115 Tryz.f115 Qy:={ c:=q115.2,f:=Tryz.func115 }
def q120:FA Tryz.f120:=⟨_,by conv=>lhs;cbv⟩
def Z3:=q120.1
theorem g120:GK 120 Tryz.f120 Z3:={ c:=q120.2,f:=Tryz.func120 }
def q122:FA Tryz.f122:=⟨_,by conv=>lhs;cbv⟩
def a122:=q122.1
theorem g122:GK 122 Tryz.f122 a122:={ c:=q122.2,f:=Tryz.func122 }
def q123:FA Tryz.f123:=⟨_,by conv=>lhs;cbv⟩
def a123:=q123.1
theorem g123:GK 123 Tryz.f123 a123:={ c:=q123.2,f:=Tryz.func123 }
def q125:FA Tryz.f125:=⟨_,by conv=>lhs;cbv⟩
def a125:=q125.1
theorem g125:GK 125 Tryz.f125 a125:={ c:=q125.2,f:=Tryz.func125 }
def q162:FA Tryz.f162:=⟨_,by conv=>lhs;cbv⟩
def TN:=q162.1
theorem g162:GK 162 Tryz.f162 TN:={ c:=q162.2,f:=Tryz.func162 }
def q168:FA Tryz.f168:=⟨_,by conv=>lhs;cbv⟩
def a168:=q168.1
theorem g168:GK 168 Tryz.f168 a168:={ c:=q168.2,f:=Tryz.func168 }
def q172:FA Tryz.f172:=⟨_,by conv=>lhs;cbv⟩
def a172:=q172.1
theorem g172:GK 172 Tryz.f172 a172:={ c:=q172.2,f:=Tryz.func172 }
def q173:FA Tryz.f173:=⟨_,by conv=>lhs;cbv⟩
def a173:=q173.1
theorem g173:GK 173 Tryz.f173 a173:={ c:=q173.2,f:=Tryz.func173 }
def q174:FA Tryz.f174:=⟨_,by conv=>lhs;cbv⟩
def Ql:=q174.1
theorem g174:GK 174 Tryz.f174 Ql:={ c:=q174.2,f:=Tryz.func174 }
def q180:FA Tryz.f180:=⟨_,by conv=>lhs;cbv⟩
def Qi:=q180.1
theorem g180:GK 180 Tryz.f180 Qi:={ c:=q180.2,f:=Tryz.func180 }
def q181:FA Tryz.f181:=⟨_,by conv=>lhs;cbv⟩
def TK:=q181.1
theorem g181:GK 181 Tryz.f181 TK:={ c:=q181.2,f:=Tryz.func181 }
def q182:FA Tryz.f182:=⟨_,by conv=>lhs;cbv⟩
def a182:=q182.1
theorem g182:GK 182 Tryz.f182 a182:={ c:=q182.2,f:=Tryz.func182 }
def q184:FA Tryz.f184:=⟨_,by conv=>lhs;cbv⟩
def Qg:=q184.1
theorem g184:GK 184 Tryz.f184 Qg:={ c:=q184.2,f:=Tryz.func184 }
def q190:FA Tryz.f190:=⟨_,by conv=>lhs;cbv⟩
def TH:=q190.1
theorem g190:GK 190 Tryz.f190 TH:={ c:=q190.2,f:=Tryz.func190 }
def q195:FA Tryz.f195:=⟨_,by conv=>lhs;cbv⟩
def a195:=q195.1
theorem g195:GK 195 Tryz.f195 a195:={ c:=q195.2,f:=Tryz.func195 }
def q197:FA Tryz.f197:=⟨_,by conv=>lhs;cbv⟩
def a197:=q197.1
theorem g197:GK 197 Tryz.f197 a197:={ c:=q197.2,f:=Tryz.func197 }
def q199:FA Tryz.f199:=⟨_,by conv=>lhs;cbv⟩
def a199:=q199.1
theorem g199:GK 199 Tryz.f199 a199:={ c:=q199.2,f:=Tryz.func199 }
def q204:FA Tryz.f204:=⟨_,by conv=>lhs;cbv⟩
def TC:=q204.1
theorem g204:GK 204 Tryz.f204 TC:={ c:=q204.2,f:=Tryz.func204 }
def q208:FA Tryz.f208:=⟨_,by conv=>lhs;cbv⟩
def PZ:=q208.1
theorem g208:GK 208 Tryz.f208 PZ:={ c:=q208.2,f:=Tryz.func208 }
def q221:FA Tryz.f221:=⟨_,by conv=>lhs;cbv⟩
def PL:=q221.1
theorem g221:GK 221 Tryz.f221 PL:={ c:=q221.2,f:=Tryz.func221 }
end X
end
end Go.AM
