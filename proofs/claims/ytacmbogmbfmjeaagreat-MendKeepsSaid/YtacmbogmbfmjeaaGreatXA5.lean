/-
 Functions of the program as the abstract machine reads them, and what is stated of them, checked by the kernel. No conditions.
-/
import Derived.Test.YtacmbogmbfmjeaaGreatXN
set_option linter.unusedVariables false
set_option linter.unusedSimpArgs false
set_option linter.unnecessarySimpa false
set_option maxRecDepth 100000
namespace Go.AM
noncomputable section
open Go.Proofs
namespace X
def q3:FA Tryz.f3:=⟨_,by conv=>lhs;cbv⟩
def a3:=q3.1
theorem g3:GK 3 Tryz.f3 a3:={ c:=q3.2,f:=Tryz.func3 }
def q6:FA Tryz.f6:=⟨_,by conv=>lhs;cbv⟩
def a6:=q6.1
theorem g6:GK 6 Tryz.f6 a6:={ c:=q6.2,f:=Tryz.func6 }
def q10:FA Tryz.f10:=⟨_,by conv=>lhs;cbv⟩
def a10:=q10.1
theorem g10:GK 10 Tryz.f10 a10:={ c:=q10.2,f:=Tryz.func10 }
def a25:AFn:=⟨(.seq (.reg [.mk 5 (.mv (.c (.bool false))) none]) (.seq (.seq (.reg [.mk 7 (.mv (.t 0)) none,.mk 8 (.len (.t 6)) none,.mk 9 (.mv (.t 1)) none,.mk 10 (.len (.t 8)) none,.mk 11 (.bin .neq (.t 7) (.t 9)) none]) (.cond (.t 10) (.seq (.reg [.mk 5 (.mv (.c (.bool false))) none]) .ret) .skip)) (.seq (.seq (.reg [.mk 6 (.mv (.c (.int .i64 0))) none]) (.block 0 (.loop (.seq (.seq (.reg [.mk 12 (.mv (.t 5)) none,.mk 13 (.mv (.t 0)) none,.mk 14 (.len (.t 12)) none,.mk 15 (.bin .lss (.t 11) (.t 13)) none]) (.cond (.t 14) .skip (.exit 0))) (.seq (.block 1 (.seq (.reg [.mk 18 (.mv (.t 0)) none,.mk 19 (.mv (.t 5)) none,.mk 20 (.ixs 4 (.t 17) (.t 18)) none,.mk 21 (.fa 0 (.t 19)) none,.mk 22 (.ld1 (.t 20)) none,.mk 23 (.mv (.t 1)) none,.mk 24 (.mv (.t 5)) none,.mk 25 (.ixs 4 (.t 22) (.t 23)) none,.mk 26 (.fa 0 (.t 24)) none,.mk 27 (.ld1 (.t 25)) none,.mk 28 (.bin .neq (.t 21) (.t 26)) none,.mk 29 (.mv (.t 27)) none,.mk 30 (.mv (.t 0)) (some (28,false)),.mk 31 (.mv (.t 5)) (some (28,false)),.mk 32 (.ixs 4 (.t 29) (.t 30)) (some (28,false)),.mk 33 (.fa 1 (.t 31)) (some (28,false)),.mk 34 (.ld1 (.t 32)) (some (28,false)),.mk 35 (.mv (.t 1)) (some (28,false)),.mk 36 (.mv (.t 5)) (some (28,false)),.mk 37 (.ixs 4 (.t 34) (.t 35)) (some (28,false)),.mk 38 (.fa 1 (.t 36)) (some (28,false)),.mk 39 (.ld1 (.t 37)) (some (28,false)),.mk 40 (.bin .neq (.t 33) (.t 38)) (some (28,false)),.mk 41 (.pick (.t 28) (.c (.bool true)) (.t 39)) none,.mk 42 (.mv (.t 40)) none,.mk 43 (.mv (.t 0)) (some (41,false)),.mk 44 (.mv (.t 5)) (some (41,false)),.mk 45 (.ixs 4 (.t 42) (.t 43)) (some (41,false)),.mk 46 (.fa 2 (.t 44)) (some (41,false)),.mk 47 (.ld1 (.t 45)) (some (41,false)),.mk 48 (.mv (.t 1)) (some (41,false)),.mk 49 (.mv (.t 5)) (some (41,false)),.mk 50 (.ixs 4 (.t 47) (.t 48)) (some (41,false)),.mk 51 (.fa 2 (.t 49)) (some (41,false)),.mk 52 (.ld1 (.t 50)) (some (41,false)),.mk 53 (.bin .neq (.t 46) (.t 51)) (some (41,false)),.mk 54 (.pick (.t 41) (.c (.bool true)) (.t 52)) none,.mk 55 (.mv (.t 53)) none,.mk 56 (.mv (.t 0)) (some (54,false)),.mk 57 (.mv (.t 5)) (some (54,false)),.mk 58 (.ixs 4 (.t 55) (.t 56)) (some (54,false)),.mk 59 (.fa 3 (.t 57)) (some (54,false)),.mk 60 (.ld1 (.t 58)) (some (54,false)),.mk 61 (.b2s (.t 59)) (some (54,false)),.mk 62 (.mv (.t 1)) (some (54,false)),.mk 63 (.mv (.t 5)) (some (54,false)),.mk 64 (.ixs 4 (.t 61) (.t 62)) (some (54,false)),.mk 65 (.fa 3 (.t 63)) (some (54,false)),.mk 66 (.ld1 (.t 64)) (some (54,false)),.mk 67 (.b2s (.t 65)) (some (54,false)),.mk 68 (.bin .neq (.t 60) (.t 66)) (some (54,false)),.mk 69 (.pick (.t 54) (.c (.bool true)) (.t 67)) none]) (.cond (.t 68) (.seq (.reg [.mk 5 (.mv (.c (.bool false))) none]) .ret) .skip))) (.reg [.mk 16 (.mv (.t 5)) none,.mk 17 (.bin .add (.t 15) (.c (.int .i64 1))) none,.mk 6 (.mv (.t 16)) none])))))) (.seq (.reg [.mk 5 (.mv (.c (.bool true))) none]) .ret)))),[.tmp 4]⟩
theorem g25:GK 25 Tryz.f25 a25:=⟨by kernel_rfl,Tryz.func25,by kernel_rfl⟩
def q35:FA Tryz.f35:=⟨_,by conv=>lhs;cbv⟩
def a35:=q35.1
theorem g35:GK 35 Tryz.f35 a35:={ c:=q35.2,f:=Tryz.func35 }
def q41:FA Tryz.f41:=⟨_,by conv=>lhs;cbv⟩
def a41:=q41.1
theorem g41:GK 41 Tryz.f41 a41:={ c:=q41.2,f:=Tryz.func41 }
def q42:FA Tryz.f42:=⟨_,by conv=>lhs;cbv⟩
def a42:=q42.1
theorem g42:GK 42 Tryz.f42 a42:={ c:=q42.2,f:=Tryz.func42 }
def q44:FA Tryz.f44:=⟨_,by conv=>lhs;cbv⟩
def a44:=q44.1
theorem g44:GK 44 Tryz.f44 a44:={ c:=q44.2,f:=Tryz.func44 }
def q47:FA Tryz.f47:=⟨_,by conv=>lhs;cbv⟩
def a47:=q47.1
theorem g47:GK 47 Tryz.f47 a47:={ c:=q47.2,f:=Tryz.func47 }
def q49:FA Tryz.f49:=⟨_,by conv=>lhs;cbv⟩
def a49:=q49.1
theorem g49:GK 49 Tryz.f49 a49:={ c:=q49.2,f:=Tryz.func49 }
def q53:FA Tryz.f53:=⟨_,by conv=>lhs;cbv⟩
def a53:=q53.1
theorem g53:GK 53 Tryz.f53 a53:={ c:=q53.2,f:=Tryz.func53 }
def q54:FA Tryz.f54:=⟨_,by conv=>lhs;cbv⟩
def a54:=q54.1
theorem g54:GK 54 Tryz.f54 a54:={ c:=q54.2,f:=Tryz.func54 }
def q60:FA Tryz.f60:=⟨_,by conv=>lhs;cbv⟩
def Nd:=q60.1
theorem g60:GK 60 Tryz.f60 Nd:={ c:=q60.2,f:=Tryz.func60 }
def q61:FA Tryz.f61:=⟨_,by conv=>lhs;cbv⟩
def a61:=q61.1
theorem g61:GK 61 Tryz.f61 a61:={ c:=q61.2,f:=Tryz.func61 }
def q68:FA Tryz.f68:=⟨_,by conv=>lhs;cbv⟩
def a68:=q68.1
theorem g68:GK 68 Tryz.f68 a68:={ c:=q68.2,f:=Tryz.func68 }
def q69:FA Tryz.f69:=⟨_,by conv=>lhs;cbv⟩
def a69:=q69.1
theorem g69:GK 69 Tryz.f69 a69:={ c:=q69.2,f:=Tryz.func69 }
def q72:FA Tryz.f72:=⟨_,by conv=>lhs;cbv⟩
def a72:=q72.1
theorem g72:GK 72 Tryz.f72 a72:={ c:=q72.2,f:=Tryz.func72 }
def q84:FA Tryz.f84:=⟨_,by conv=>lhs;cbv⟩
def a84:=q84.1
theorem g84:GK 84 Tryz.f84 a84:={ c:=q84.2,f:=Tryz.func84 }
def q88:FA Tryz.f88:=⟨_,by conv=>lhs;cbv⟩
def Na:=q88.1
theorem g88:GK 88 Tryz.f88 Na:={ c:=q88.2,f:=Tryz.func88 }
def q96:FA Tryz.f96:=⟨_,by conv=>lhs;cbv⟩
def a96:=q96.1
theorem g96:GK 96 Tryz.f96 a96:={ c:=q96.2,f:=Tryz.func96 }
def q101:FA Tryz.f101:=⟨_,by conv=>lhs;cbv⟩
def PW:=q101.1
theorem g101:GK 101 Tryz.f101 PW:={ c:=q101.2,f:=Tryz.func101 }
def q105:FA Tryz.f105:=⟨_,by conv=>lhs;cbv⟩
def T1:=q105.1
theorem g105:GK 105 Tryz.f105 T1:={ c:=q105.2,f:=Tryz.func105 }
def q108:FA Tryz.f108:=⟨_,by conv=>lhs;cbv⟩
def PS:=q108.1
theorem g108:GK 108 Tryz.f108 PS:={ c:=q108.2,f:=Tryz.func108 }
def q110:FA Tryz.f110:=⟨_,by conv=>lhs;cbv⟩
def Tz:=q110.1
theorem g110:GK 110 Tryz.f110 Tz:={ c:=q110.2,f:=Tryz.func110 }
def q114:FA Tryz.f114:=⟨_,by conv=>lhs;cbv⟩
def PN:=q114.1
theorem g114:GK 114 Tryz.f114 PN:={ c:=q114.2,f:=Tryz.func114 }
def q128:FA Tryz.f128:=⟨_,by conv=>lhs;cbv⟩
def MO:=q128.1
theorem g128:GK 128 Tryz.f128 MO:={ c:=q128.2,f:=Tryz.func128 }
def q151:FA Tryz.f151:=⟨_,by conv=>lhs;cbv⟩
def PB:=q151.1
theorem g151:GK 151 Tryz.f151 PB:={ c:=q151.2,f:=Tryz.func151 }
def q157:FA Tryz.f157:=⟨_,by conv=>lhs;cbv⟩
def Tf:=q157.1
theorem g157:GK 157 Tryz.f157 Tf:={ c:=q157.2,f:=Tryz.func157 }
def q167:FA Tryz.f167:=⟨_,by conv=>lhs;cbv⟩
def a167:=q167.1
theorem g167:GK 167 Tryz.f167 a167:={ c:=q167.2,f:=Tryz.func167 }
def q175:FA Tryz.f175:=⟨_,by conv=>lhs;cbv⟩
def SZ:=q175.1
theorem g175:GK 175 Tryz.f175 SZ:={ c:=q175.2,f:=Tryz.func175 }
def q187:FA Tryz.f187:=⟨_,by conv=>lhs;cbv⟩
def P1:=q187.1
theorem g187:GK 187 Tryz.f187 P1:={ c:=q187.2,f:=Tryz.func187 }
def q194:FA Tryz.f194:=⟨_,by conv=>lhs;cbv⟩
def SP:=q194.1
theorem g194:GK 194 Tryz.f194 SP:={ c:=q194.2,f:=Tryz.func194 }
def q203:FA Tryz.f203:=⟨_,by conv=>lhs;cbv⟩
def SO:=q203.1
theorem g203:GK 203 Tryz.f203 SO:={ c:=q203.2,f:=Tryz.func203 }
def q206:FA Tryz.f206:=⟨_,by conv=>lhs;cbv⟩
def Py:=q206.1
theorem g206:GK 206 Tryz.f206 Py:={ c:=q206.2,f:=Tryz.func206 }
def q210:FA Tryz.f210:=⟨_,by conv=>lhs;cbv⟩
def Pv:=q210.1
theorem g210:GK 210 Tryz.f210 Pv:={ c:=q210.2,f:=Tryz.func210 }
def q211:FA Tryz.f211:=⟨_,by conv=>lhs;cbv⟩
def Pt:=q211.1
theorem g211:GK 211 Tryz.f211 Pt:={ c:=q211.2,f:=Tryz.func211 }
end X
end
end Go.AM
