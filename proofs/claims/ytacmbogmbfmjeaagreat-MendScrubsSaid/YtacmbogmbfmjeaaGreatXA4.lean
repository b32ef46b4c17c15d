/-
 Functions of the program as the abstract machine reads them, and what is stated of them, checked by the kernel. No conditions.
-/
import Derived.Test.YtacmbogmbfmjeaaGreatXN
set_option linter.unusedVariables false
set_option linter.unusedSimpArgs false
set_option linter.unnecessarySimpa false
set_option maxRecDepth 100000
namespace Go.AM
noncomputable section
open Go.Proofs
namespace X
def q15:FA Tryz.f15:=⟨_,by conv=>lhs;cbv⟩
def a15:=q15.1
theorem g15:GK 15 Tryz.f15 a15:={ c:=q15.2,f:=Tryz.func15 }
def q17:FA Tryz.f17:=⟨_,by conv=>lhs;cbv⟩
def a17:=q17.1
theorem g17:GK 17 Tryz.f17 a17:={ c:=q17.2,f:=Tryz.func17 }
def q19:FA Tryz.f19:=⟨_,by conv=>lhs;cbv⟩
def a19:=q19.1
theorem g19:GK 19 Tryz.f19 a19:={ c:=q19.2,f:=Tryz.func19 }
def q21:FA Tryz.f21:=⟨_,by conv=>lhs;cbv⟩
def a21:=q21.1
theorem g21:GK 21 Tryz.f21 a21:={ c:=q21.2,f:=Tryz.func21 }
def q23:FA Tryz.f23:=⟨_,by conv=>lhs;cbv⟩
def a23:=q23.1
theorem g23:GK 23 Tryz.f23 a23:={ c:=q23.2,f:=Tryz.func23 }
def q30:FA Tryz.f30:=⟨_,by conv=>lhs;cbv⟩
def a30:=q30.1
theorem g30:GK 30 Tryz.f30 a30:={ c:=q30.2,f:=Tryz.func30 }
def q32:FA Tryz.f32:=⟨_,by conv=>lhs;cbv⟩
def a32:=q32.1
theorem g32:GK 32 Tryz.f32 a32:={ c:=q32.2,f:=Tryz.func32 }
def q34:FA Tryz.f34:=⟨_,by conv=>lhs;cbv⟩
def a34:=q34.1
theorem g34:GK 34 Tryz.f34 a34:={ c:=q34.2,f:=Tryz.func34 }
def q38:FA Tryz.f38:=⟨_,by conv=>lhs;cbv⟩
def a38:=q38.1
theorem g38:GK 38 Tryz.f38 a38:={ c:=q38.2,f:=Tryz.func38 }
def q51:FA Tryz.f51:=⟨_,by conv=>lhs;cbv⟩
def a51:=q51.1
theorem g51:GK 51 Tryz.f51 a51:={ c:=q51.2,f:=Tryz.func51 }
def q53:FA Tryz.f53:=⟨_,by conv=>lhs;cbv⟩
def a53:=q53.1
theorem g53:GK 53 Tryz.f53 a53:={ c:=q53.2,f:=Tryz.func53 }
def q59:FA Tryz.f59:=⟨_,by conv=>lhs;cbv⟩
def a59:=q59.1
theorem g59:GK 59 Tryz.f59 a59:={ c:=q59.2,f:=Tryz.func59 }
def q65:FA Tryz.f65:=⟨_,by conv=>lhs;cbv⟩
def a65:=q65.1
theorem g65:GK 65 Tryz.f65 a65:={ c:=q65.2,f:=Tryz.func65 }
def q69:FA Tryz.f69:=⟨_,by conv=>lhs;cbv⟩
def a69:=q69.1
theorem g69:GK 69 Tryz.f69 a69:={ c:=q69.2,f:=Tryz.func69 }
def q72:FA Tryz.f72:=⟨_,by conv=>lhs;cbv⟩
def a72:=q72.1
theorem g72:GK 72 Tryz.f72 a72:={ c:=q72.2,f:=Tryz.func72 }
def q82:FA Tryz.f82:=⟨_,by conv=>lhs;cbv⟩
def a82:=q82.1
theorem g82:GK 82 Tryz.f82 a82:={ c:=q82.2,f:=Tryz.func82 }
def q85:FA Tryz.f85:=⟨_,by conv=>lhs;cbv⟩
def a85:=q85.1
theorem g85:GK 85 Tryz.f85 a85:={ c:=q85.2,f:=Tryz.func85 }
def q97:FA Tryz.f97:=⟨_,by conv=>lhs;cbv⟩
def a97:=q97.1
theorem g97:GK 97 Tryz.f97 a97:={ c:=q97.2,f:=Tryz.func97 }
def q102:FA Tryz.f102:=⟨_,by conv=>lhs;cbv⟩
def N8:=q102.1
theorem g102:GK 102 Tryz.f102 N8:={ c:=q102.2,f:=Tryz.func102 }
def q105:FA Tryz.f105:=⟨_,by conv=>lhs;cbv⟩
def QX:=q105.1
theorem g105:GK 105 Tryz.f105 QX:={ c:=q105.2,f:=Tryz.func105 }
def q107:FA Tryz.f107:=⟨_,by conv=>lhs;cbv⟩
def N6:=q107.1
theorem g107:GK 107 Tryz.f107 N6:={ c:=q107.2,f:=Tryz.func107 }
def q108:FA Tryz.f108:=⟨_,by conv=>lhs;cbv⟩
def N5:=q108.1
theorem g108:GK 108 Tryz.f108 N5:={ c:=q108.2,f:=Tryz.func108 }
def q109:FA Tryz.f109:=⟨_,by conv=>lhs;cbv⟩
def N4:=q109.1
theorem g109:GK 109 Tryz.f109 N4:={ c:=q109.2,f:=Tryz.func109 }
def q117:FA Tryz.f117:=⟨_,by conv=>lhs;cbv⟩
def QS:=q117.1
theorem g117:GK 117 Tryz.f117 QS:={ c:=q117.2,f:=Tryz.func117 }
def q141:FA Tryz.f141:=⟨_,by conv=>lhs;cbv⟩
def VO:=q141.1
theorem g141:GK 141 Tryz.f141 VO:={ c:=q141.2,f:=Tryz.func141 }
def q148:FA Tryz.f148:=⟨_,by conv=>lhs;cbv⟩
def QI:=q148.1
theorem g148:GK 148 Tryz.f148 QI:={ c:=q148.2,f:=Tryz.func148 }
def q155:FA Tryz.f155:=⟨_,by conv=>lhs;cbv⟩
def QE:=q155.1
theorem g155:GK 155 Tryz.f155 QE:={ c:=q155.2,f:=Tryz.func155 }
def q178:FA Tryz.f178:=⟨_,by conv=>lhs;cbv⟩
def Q3:=q178.1
theorem g178:GK 178 Tryz.f178 Q3:={ c:=q178.2,f:=Tryz.func178 }
def q180:FA Tryz.f180:=⟨_,by conv=>lhs;cbv⟩
def Q1:=q180.1
theorem g180:GK 180 Tryz.f180 Q1:={ c:=q180.2,f:=Tryz.func180 }
def q182:FA Tryz.f182:=⟨_,by conv=>lhs;cbv⟩
def a182:=q182.1
theorem g182:GK 182 Tryz.f182 a182:={ c:=q182.2,f:=Tryz.func182 }
def q187:FA Tryz.f187:=⟨_,by conv=>lhs;cbv⟩
def Ni:=q187.1
theorem g187:GK 187 Tryz.f187 Ni:={ c:=q187.2,f:=Tryz.func187 }
def q194:FA Tryz.f194:=⟨_,by conv=>lhs;cbv⟩
def Qu:=q194.1
theorem g194:GK 194 Tryz.f194 Qu:={ c:=q194.2,f:=Tryz.func194 }
def q199:FA Tryz.f199:=⟨_,by conv=>lhs;cbv⟩
def a199:=q199.1
theorem g199:GK 199 Tryz.f199 a199:={ c:=q199.2,f:=Tryz.func199 }
def q208:FA Tryz.f208:=⟨_,by conv=>lhs;cbv⟩
def Nf:=q208.1
theorem g208:GK 208 Tryz.f208 Nf:={ c:=q208.2,f:=Tryz.func208 }
def q212:FA Tryz.f212:=⟨_,by conv=>lhs;cbv⟩
def Nb:=q212.1
theorem g212:GK 212 Tryz.f212 Nb:={ c:=q212.2,f:=Tryz.func212 }
end X
end
end Go.AM
