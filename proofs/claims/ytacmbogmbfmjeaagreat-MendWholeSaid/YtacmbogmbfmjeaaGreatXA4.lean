/- Contracts of functions over the abstract machine. No conditions. -/
import Derived.Test.YtacmbogmbfmjeaaGreatXN
set_option maxRecDepth 100000
namespace Go.AM
noncomputable section
open Go.Proofs
namespace X
def q9:FA Tryz.f9:=⟨_,by conv=>lhs;cbv⟩
def a9:=q9.1
theorem g9:GK 9 Tryz.f9 a9:={ c:=q9.2,f:=Tryz.func9 }
def q14:FA Tryz.f14:=⟨_,by conv=>lhs;cbv⟩
def Kj:=q14.1
theorem g14:GK 14 Tryz.f14 Kj:={ c:=q14.2,f:=Tryz.func14 }
def q21:FA Tryz.f21:=⟨_,by conv=>lhs;cbv⟩
def HX:=q21.1
theorem g21:GK 21 Tryz.f21 HX:={ c:=q21.2,f:=Tryz.func21 }
def q27:FA Tryz.f27:=⟨_,by conv=>lhs;cbv⟩
def a27:=q27.1
theorem g27:GK 27 Tryz.f27 a27:={ c:=q27.2,f:=Tryz.func27 }
def q31:FA Tryz.f31:=⟨_,by conv=>lhs;cbv⟩
def a31:=q31.1
theorem g31:GK 31 Tryz.f31 a31:={ c:=q31.2,f:=Tryz.func31 }
def q37:FA Tryz.f37:=⟨_,by conv=>lhs;cbv⟩
def a37:=q37.1
theorem g37:GK 37 Tryz.f37 a37:={ c:=q37.2,f:=Tryz.func37 }
def q39:FA Tryz.f39:=⟨_,by conv=>lhs;cbv⟩
def a39:=q39.1
theorem g39:GK 39 Tryz.f39 a39:={ c:=q39.2,f:=Tryz.func39 }
def q42:FA Tryz.f42:=⟨_,by conv=>lhs;cbv⟩
def a42:=q42.1
theorem g42:GK 42 Tryz.f42 a42:={ c:=q42.2,f:=Tryz.func42 }
def q49:FA Tryz.f49:=⟨_,by conv=>lhs;cbv⟩
def a49:=q49.1
theorem g49:GK 49 Tryz.f49 a49:={ c:=q49.2,f:=Tryz.func49 }
def q60:FA Tryz.f60:=⟨_,by conv=>lhs;cbv⟩
def NF:=q60.1
theorem g60:GK 60 Tryz.f60 NF:={ c:=q60.2,f:=Tryz.func60 }
def q62:FA Tryz.f62:=⟨_,by conv=>lhs;cbv⟩
def a62:=q62.1
theorem g62:GK 62 Tryz.f62 a62:={ c:=q62.2,f:=Tryz.func62 }
def q81:FA Tryz.f81:=⟨_,by conv=>lhs;cbv⟩
def a81:=q81.1
theorem g81:GK 81 Tryz.f81 a81:={ c:=q81.2,f:=Tryz.func81 }
def q83:FA Tryz.f83:=⟨_,by conv=>lhs;cbv⟩
def a83:=q83.1
theorem g83:GK 83 Tryz.f83 a83:={ c:=q83.2,f:=Tryz.func83 }
def q84:FA Tryz.f84:=⟨_,by conv=>lhs;cbv⟩
def a84:=q84.1
theorem g84:GK 84 Tryz.f84 a84:={ c:=q84.2,f:=Tryz.func84 }
def q90:FA Tryz.f90:=⟨_,by conv=>lhs;cbv⟩
def NB:=q90.1
theorem g90:GK 90 Tryz.f90 NB:={ c:=q90.2,f:=Tryz.func90 }
def q104:FA Tryz.f104:=⟨_,by conv=>lhs;cbv⟩
def Uo:=q104.1
theorem g104:GK 104 Tryz.f104 Uo:={ c:=q104.2,f:=Tryz.func104 }
def q106:FA Tryz.f106:=⟨_,by conv=>lhs;cbv⟩
def Um:=q106.1
theorem g106:GK 106 Tryz.f106 Um:={ c:=q106.2,f:=Tryz.func106 }
def q127:FA Tryz.f127:=⟨_,by conv=>lhs;cbv⟩
def a127:=q127.1
theorem g127:GK 127 Tryz.f127 a127:={ c:=q127.2,f:=Tryz.func127 }
def q129:FA Tryz.f129:=⟨_,by conv=>lhs;cbv⟩
def Z2:=q129.1
theorem g129:GK 129 Tryz.f129 Z2:={ c:=q129.2,f:=Tryz.func129 }
def q130:FA Tryz.f130:=⟨_,by conv=>lhs;cbv⟩
def Qw:=q130.1
theorem g130:GK 130 Tryz.f130 Qw:={ c:=q130.2,f:=Tryz.func130 }
def q131:FA Tryz.f131:=⟨_,by conv=>lhs;cbv⟩
def a131:=q131.1
theorem g131:GK 131 Tryz.f131 a131:={ c:=q131.2,f:=Tryz.func131 }
def q139:FA Tryz.f139:=⟨_,by conv=>lhs;cbv⟩
def Qt:=q139.1
theorem g139:GK 139 Tryz.f139 Qt:={ c:=q139.2,f:=Tryz.func139 }
def q145:FA Tryz.f145:=⟨_,by conv=>lhs;cbv⟩
def N0:=q145.1
theorem g145:GK 145 Tryz.f145 N0:={ c:=q145.2,f:=Tryz.func145 }
def q147:FA Tryz.f147:=⟨_,by conv=>lhs;cbv⟩
def Qq:=q147.1
theorem g147:GK 147 Tryz.f147 Qq:={ c:=q147.2,f:=Tryz.func147 }
def q148:FA Tryz.f148:=⟨_,by conv=>lhs;cbv⟩
def TZ:=q148.1
theorem g148:GK 148 Tryz.f148 TZ:={ c:=q148.2,f:=Tryz.func148 }
def q154:FA Tryz.f154:=⟨_,by conv=>lhs;cbv⟩
def TW:=q154.1
theorem g154:GK 154 Tryz.f154 TW:={ c:=q154.2,f:=Tryz.func154 }
def q158:FA Tryz.f158:=⟨_,by conv=>lhs;cbv⟩
def TS:=q158.1
theorem g158:GK 158 Tryz.f158 TS:={ c:=q158.2,f:=Tryz.func158 }
def q160:FA Tryz.f160:=⟨_,by conv=>lhs;cbv⟩
def TP:=q160.1
theorem g160:GK 160 Tryz.f160 TP:={ c:=q160.2,f:=Tryz.func160 }
def q163:FA Tryz.f163:=⟨_,by conv=>lhs;cbv⟩
def Qm:=q163.1
theorem g163:GK 163 Tryz.f163 Qm:={ c:=q163.2,f:=Tryz.func163 }
def q164:FA Tryz.f164:=⟨_,by conv=>lhs;cbv⟩
def Nz:=q164.1
theorem g164:GK 164 Tryz.f164 Nz:={ c:=q164.2,f:=Tryz.func164 }
def q170:FA Tryz.f170:=⟨_,by conv=>lhs;cbv⟩
def a170:=q170.1
theorem g170:GK 170 Tryz.f170 a170:={ c:=q170.2,f:=Tryz.func170 }
def q185:FA Tryz.f185:=⟨_,by conv=>lhs;cbv⟩
def Ny:=q185.1
theorem g185:GK 185 Tryz.f185 Ny:={ c:=q185.2,f:=Tryz.func185 }
def q198:FA Tryz.f198:=⟨_,by conv=>lhs;cbv⟩
def a198:=q198.1
theorem g198:GK 198 Tryz.f198 a198:={ c:=q198.2,f:=Tryz.func198 }
def q201:FA Tryz.f201:=⟨_,by conv=>lhs;cbv⟩
def Qc:=q201.1
theorem g201:GK 201 Tryz.f201 Qc:={ c:=q201.2,f:=Tryz.func201 }
def q207:FA Tryz.f207:=⟨_,by conv=>lhs;cbv⟩
def Qa:=q207.1
theorem g207:GK 207 Tryz.f207 Qa:={ c:=q207.2,f:=Tryz.func207 }
end X
end
end Go.AM
