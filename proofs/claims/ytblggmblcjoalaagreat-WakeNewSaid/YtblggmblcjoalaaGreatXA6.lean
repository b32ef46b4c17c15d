/- Contracts of functions over the abstract machine. No conditions. -/
import Derived.Test.YtblggmblcjoalaaGreatXN
set_option maxRecDepth 100000
namespace Go.AM
noncomputable section
open Go.Proofs
namespace X
def q21:FA Tryz.f21:=⟨_,by conv=>lhs;cbv⟩
def a21:=q21.1
theorem g21:GK 21 Tryz.f21 a21:={ c:=q21.2,f:=Tryz.func21 }
def q23:FA Tryz.f23:=⟨_,by conv=>lhs;cbv⟩
def a23:=q23.1
theorem g23:GK 23 Tryz.f23 a23:={ c:=q23.2,f:=Tryz.func23 }
def q35:FA Tryz.f35:=⟨_,by conv=>lhs;cbv⟩
def a35:=q35.1
theorem g35:GK 35 Tryz.f35 a35:={ c:=q35.2,f:=Tryz.func35 }
def q36:FA Tryz.f36:=⟨_,by conv=>lhs;cbv⟩
def a36:=q36.1
theorem g36:GK 36 Tryz.f36 a36:={ c:=q36.2,f:=Tryz.func36 }
def q37:FA Tryz.f37:=⟨_,by conv=>lhs;cbv⟩
def a37:=q37.1
theorem g37:GK 37 Tryz.f37 a37:={ c:=q37.2,f:=Tryz.func37 }
def q57:FA Tryz.f57:=⟨_,by conv=>lhs;cbv⟩
def a57:=q57.1
theorem g57:GK 57 Tryz.f57 a57:={ c:=q57.2,f:=Tryz.func57 }
def q59:FA Tryz.f59:=⟨_,by conv=>lhs;cbv⟩
def a59:=q59.1
theorem g59:GK 59 Tryz.f59 a59:={ c:=q59.2,f:=Tryz.func59 }
def q61:FA Tryz.f61:=⟨_,by conv=>lhs;cbv⟩
def a61:=q61.1
theorem g61:GK 61 Tryz.f61 a61:={ c:=q61.2,f:=Tryz.func61 }
def a63:AFn:=⟨(.seq (.reg [.mk 6 (.box 76 4 (.t 1)) none,.mk 9 (.mv (.c .nils)) none,.mk 10 (.mv (.c (.int .i64 0))) none]) (.seq (.reg [.mk 19 (.mv (.t 0)) none,.mk 20 (.ldn 4 (.t 5)) none,.mk 21 (.mv (.t 2)) none,.mk 22 (.mv (.t 3)) none,.mk 23 (.scall 134 [(.t 18),(.t 19),(.t 20),(.t 21)]) none,.mk 18 (.mv (.t 22)) none,.mk 24 (.ext (.t 17) 0) none,.mk 25 (.ext (.t 17) 1) none,.mk 11 (.new 42 5 [(.int .u32 0),(.int .u32 0),(.int .i64 0),(.int .i64 0),.nils]) none,.mk 0 (.st 5 (.t 10) (.t 23)) none,.mk 12 (.mv (.t 24)) none]) (.seq (.seq (.reg [.mk 26 (.mv (.t 11)) none,.mk 27 (.un .not (.t 25)) none]) (.cond (.t 26) (.seq (.reg [.mk 9 (.mv (.c .nils)) none,.mk 10 (.mv (.c (.int .i64 9))) none]) .ret) .skip)) (.seq (.reg [.mk 28 (.mv (.t 0)) none,.mk 29 (.nilck (.t 27)) none,.mk 30 (.fa 0 (.t 28)) none,.mk 31 (.fa 0 (.t 29)) none,.mk 32 (.fa 1 (.t 30)) none,.mk 33 (.ld1 (.t 31)) none,.mk 13 (.mv (.t 32)) none]) (.seq (.reg [.mk 35 (.mv (.t 0)) none,.mk 36 (.nilck (.t 34)) none,.mk 37 (.fa 0 (.t 35)) none,.mk 38 (.fa 0 (.t 36)) none,.mk 39 (.fa 0 (.t 37)) none,.mk 40 (.ld1 (.t 38)) none,.mk 41 (.fa 0 (.t 10)) none,.mk 42 (.ld1 (.t 40)) none,.mk 43 (.fa 1 (.t 10)) none,.mk 44 (.ld1 (.t 42)) none,.mk 45 (.fa 2 (.t 10)) none,.mk 46 (.ld1 (.t 44)) none,.mk 47 (.build [(.int .u32 0),(.int .u32 0),(.int .u32 0),(.int .i64 0)] [(0,1,(.t 39)),(1,1,(.t 41)),(2,1,(.t 43)),(3,1,(.t 45))]) none,.mk 48 (.scall 45 [(.t 46)]) none,.mk 34 (.mv (.t 47)) none,.mk 49 (.ext (.t 33) 0) none,.mk 50 (.ext (.t 33) 1) none,.mk 14 (.mv (.t 48)) none,.mk 10 (.mv (.t 49)) none]) (.seq (.seq (.reg [.mk 51 (.mv (.t 9)) none,.mk 52 (.bin .neq (.t 50) (.c (.int .i64 0))) none]) (.cond (.t 51) (.seq (.reg [.mk 53 (.mv (.t 9)) none,.mk 9 (.mv (.c .nils)) none,.mk 10 (.mv (.t 52)) none]) .ret) .skip)) (.seq (.seq (.reg [.mk 54 (.mv (.t 3)) none,.mk 55 (.len (.t 53)) none,.mk 56 (.bin .gtr (.t 54) (.c (.int .i64 0))) none]) (.cond (.t 55) (.reg [.mk 57 (.mv (.t 8)) none,.mk 58 (.mv (.t 12)) none,.mk 59 (.fa 2 (.t 10)) none,.mk 60 (.ld1 (.t 58)) none,.mk 61 (.bin .add (.c (.int .i64 1)) (.t 59)) none,.mk 62 (.build [(.int .i64 0),(.int .u8 0),(.int .i64 0),.nils] [(0,1,(.t 57)),(1,1,(.c (.int .u8 2))),(2,1,(.t 60))]) none,.mk 63 (.bsl 56 4 1 [(.int .i64 0),(.int .u8 0),(.int .i64 0),.nils] [(0,4,(.t 61))]) none,.mk 64 (.app 56 4 (.t 56) (.t 62)) none,.mk 9 (.mv (.t 63)) none]) .skip)) (.seq (.seq (.reg [.mk 65 (.mv (.t 3)) none,.mk 66 (.len (.t 64)) none,.mk 67 (.mv (.c (.int .i64 0))) none]) (.block 0 (.loop (.seq (.reg [.mk 68 (.bin .lss (.t 66) (.t 65)) none]) (.seq (.cond (.t 67) .skip (.exit 0)) (.seq (.block 1 (.seq (.reg [.mk 69 (.ixs 4 (.t 64) (.t 66)) none,.mk 70 (.ldn 4 (.t 68)) none,.mk 16 (.new 167 4 [(.int .i64 0),.nils,.nils,.nils]) none,.mk 0 (.st 4 (.t 15) (.t 69)) none]) (.seq (.reg [.mk 17 (.mv (.c .nils)) none]) (.seq (.seq (.reg [.mk 72 (.mv (.t 0)) none,.mk 73 (.nilck (.t 71)) none,.mk 74 (.fa 0 (.t 72)) none,.mk 75 (.fa 0 (.t 73)) none,.mk 76 (.ldn 6 (.t 74)) none,.mk 77 (.ldn 5 (.t 10)) none,.mk 78 (.ldn 4 (.t 15)) none,.mk 79 (.scall 135 [(.t 75),(.t 76),(.t 77)]) none,.mk 71 (.mv (.t 78)) none,.mk 80 (.ext (.t 70) 0) none,.mk 81 (.ext (.t 70) 1) none,.mk 82 (.ext (.t 70) 2) none,.mk 0 (.st 5 (.t 10) (.t 79)) none,.mk 17 (.mv (.t 80)) none,.mk 10 (.mv (.t 81)) none]) (.seq (.reg [.mk 83 (.mv (.t 9)) none,.mk 84 (.bin .neq (.t 82) (.c (.int .i64 0))) none]) (.cond (.t 83) (.seq (.reg [.mk 85 (.mv (.t 9)) none,.mk 9 (.mv (.c .nils)) none,.mk 10 (.mv (.t 84)) none]) .ret) .skip))) (.reg [.mk 86 (.mv (.t 8)) none,.mk 87 (.mv (.t 16)) none,.mk 88 (.app 56 4 (.t 85) (.t 86)) none,.mk 9 (.mv (.t 87)) none]))))) (.reg [.mk 89 (.bin .add (.t 66) (.c (.int .i64 1))) none,.mk 67 (.mv (.t 88)) none]))))))) (.seq (.seq (.reg [.mk 90 (.mv (.t 3)) none,.mk 91 (.len (.t 89)) none,.mk 92 (.bin .gtr (.t 90) (.c (.int .i64 0))) none]) (.cond (.t 91) (.reg [.mk 93 (.mv (.t 8)) none,.mk 94 (.mv (.t 12)) none,.mk 95 (.build [(.int .i64 0),(.int .u8 0),(.int .i64 0),.nils] [(0,1,(.t 93)),(1,1,(.c (.int .u8 3)))]) none,.mk 96 (.bsl 56 4 1 [(.int .i64 0),(.int .u8 0),(.int .i64 0),.nils] [(0,4,(.t 94))]) none,.mk 97 (.app 56 4 (.t 92) (.t 95)) none,.mk 9 (.mv (.t 96)) none]) .skip)) (.seq (.reg [.mk 99 (.mv (.t 0)) none,.mk 100 (.mv (.t 0)) none,.mk 101 (.nilck (.t 99)) none,.mk 102 (.fa 0 (.t 100)) none,.mk 103 (.fa 0 (.t 101)) none,.mk 104 (.ldn 6 (.t 102)) none,.mk 105 (.ldn 5 (.t 10)) none,.mk 106 (.scall 136 [(.t 103),(.t 104)]) none,.mk 98 (.mv (.t 105)) none,.mk 107 (.ext (.t 97) 0) none,.mk 108 (.ext (.t 97) 1) none,.mk 109 (.nilck (.t 98)) none,.mk 110 (.fa 0 (.t 108)) none,.mk 111 (.fa 15 (.t 109)) none,.mk 0 (.st 5 (.t 110) (.t 106)) none,.mk 10 (.mv (.t 107)) none]) (.seq (.reg [.mk 112 (.mv (.t 8)) none,.mk 113 (.mv (.t 12)) none,.mk 114 (.mv (.t 13)) none,.mk 115 (.build [(.int .i64 0),(.int .u8 0),(.int .i64 0),.nils] [(0,1,(.t 112)),(1,1,(.c (.int .u8 2))),(3,1,(.t 113))]) none,.mk 116 (.bsl 56 4 1 [(.int .i64 0),(.int .u8 0),(.int .i64 0),.nils] [(0,4,(.t 114))]) none,.mk 117 (.app 56 4 (.t 111) (.t 115)) none,.mk 118 (.mv (.t 9)) none,.mk 9 (.mv (.t 116)) none,.mk 10 (.mv (.t 117)) none]) .ret))))))))))),[.tmp 8,.tmp 9]⟩
theorem g63:GK 63 Tryz.f63 a63:=⟨by kernel_rfl,Tryz.func63,by kernel_rfl⟩
def q77:FA Tryz.f77:=⟨_,by conv=>lhs;cbv⟩
def a77:=q77.1
theorem g77:GK 77 Tryz.f77 a77:={ c:=q77.2,f:=Tryz.func77 }
def q85:FA Tryz.f85:=⟨_,by conv=>lhs;cbv⟩
def a85:=q85.1
theorem g85:GK 85 Tryz.f85 a85:={ c:=q85.2,f:=Tryz.func85 }
def q88:FA Tryz.f88:=⟨_,by conv=>lhs;cbv⟩
def a88:=q88.1
theorem g88:GK 88 Tryz.f88 a88:={ c:=q88.2,f:=Tryz.func88 }
def q98:FA Tryz.f98:=⟨_,by conv=>lhs;cbv⟩
def a98:=q98.1
theorem g98:GK 98 Tryz.f98 a98:={ c:=q98.2,f:=Tryz.func98 }
def q111:FA Tryz.f111:=⟨_,by conv=>lhs;cbv⟩
def a111:=q111.1
theorem g111:GK 111 Tryz.f111 a111:={ c:=q111.2,f:=Tryz.func111 }
def q120:FA Tryz.f120:=⟨_,by conv=>lhs;cbv⟩
def a120:=q120.1
theorem g120:GK 120 Tryz.f120 a120:={ c:=q120.2,f:=Tryz.func120 }
def q126:FA Tryz.f126:=⟨_,by conv=>lhs;cbv⟩
def a126:=q126.1
theorem g126:GK 126 Tryz.f126 a126:={ c:=q126.2,f:=Tryz.func126 }
def q133:FA Tryz.f133:=⟨_,by conv=>lhs;cbv⟩
def a133:=q133.1
theorem g133:GK 133 Tryz.f133 a133:={ c:=q133.2,f:=Tryz.func133 }
def q135:FA Tryz.f135:=⟨_,by conv=>lhs;cbv⟩
def a135:=q135.1
theorem g135:GK 135 Tryz.f135 a135:={ c:=q135.2,f:=Tryz.func135 }
def q152:FA Tryz.f152:=⟨_,by conv=>lhs;cbv⟩
def a152:=q152.1
theorem g152:GK 152 Tryz.f152 a152:={ c:=q152.2,f:=Tryz.func152 }
def q154:FA Tryz.f154:=⟨_,by conv=>lhs;cbv⟩
def a154:=q154.1
theorem g154:GK 154 Tryz.f154 a154:={ c:=q154.2,f:=Tryz.func154 }
def q157:FA Tryz.f157:=⟨_,by conv=>lhs;cbv⟩
def a157:=q157.1
theorem g157:GK 157 Tryz.f157 a157:={ c:=q157.2,f:=Tryz.func157 }
def q174:FA Tryz.f174:=⟨_,by conv=>lhs;cbv⟩
def a174:=q174.1
theorem g174:GK 174 Tryz.f174 a174:={ c:=q174.2,f:=Tryz.func174 }
def q176:FA Tryz.f176:=⟨_,by conv=>lhs;cbv⟩
def a176:=q176.1
theorem g176:GK 176 Tryz.f176 a176:={ c:=q176.2,f:=Tryz.func176 }
def q177:FA Tryz.f177:=⟨_,by conv=>lhs;cbv⟩
def a177:=q177.1
theorem g177:GK 177 Tryz.f177 a177:={ c:=q177.2,f:=Tryz.func177 }
def q179:FA Tryz.f179:=⟨_,by conv=>lhs;cbv⟩
def a179:=q179.1
theorem g179:GK 179 Tryz.f179 a179:={ c:=q179.2,f:=Tryz.func179 }
def q180:FA Tryz.f180:=⟨_,by conv=>lhs;cbv⟩
def a180:=q180.1
theorem g180:GK 180 Tryz.f180 a180:={ c:=q180.2,f:=Tryz.func180 }
def q206:FA Tryz.f206:=⟨_,by conv=>lhs;cbv⟩
def a206:=q206.1
theorem g206:GK 206 Tryz.f206 a206:={ c:=q206.2,f:=Tryz.func206 }
def q214:FA Tryz.f214:=⟨_,by conv=>lhs;cbv⟩
def a214:=q214.1
theorem g214:GK 214 Tryz.f214 a214:={ c:=q214.2,f:=Tryz.func214 }
def q238:FA Tryz.f238:=⟨_,by conv=>lhs;cbv⟩
def a238:=q238.1
theorem g238:GK 238 Tryz.f238 a238:={ c:=q238.2,f:=Tryz.func238 }
def q251:FA Tryz.f251:=⟨_,by conv=>lhs;cbv⟩
def a251:=q251.1
theorem g251:GK 251 Tryz.f251 a251:={ c:=q251.2,f:=Tryz.func251 }
def q262:FA Tryz.f262:=⟨_,by conv=>lhs;cbv⟩
def a262:=q262.1
theorem g262:GK 262 Tryz.f262 a262:={ c:=q262.2,f:=Tryz.func262 }
def q263:FA Tryz.f263:=⟨_,by conv=>lhs;cbv⟩
def a263:=q263.1
theorem g263:GK 263 Tryz.f263 a263:={ c:=q263.2,f:=Tryz.func263 }
def q265:FA Tryz.f265:=⟨_,by conv=>lhs;cbv⟩
def a265:=q265.1
theorem g265:GK 265 Tryz.f265 a265:={ c:=q265.2,f:=Tryz.func265 }
def q274:FA Tryz.f274:=⟨_,by conv=>lhs;cbv⟩
def a274:=q274.1
theorem g274:GK 274 Tryz.f274 a274:={ c:=q274.2,f:=Tryz.func274 }
def q303:FA Tryz.f303:=⟨_,by conv=>lhs;cbv⟩
def a303:=q303.1
theorem g303:GK 303 Tryz.f303 a303:={ c:=q303.2,f:=Tryz.func303 }
def q319:FA Tryz.f319:=⟨_,by conv=>lhs;cbv⟩
def a319:=q319.1
theorem g319:GK 319 Tryz.f319 a319:={ c:=q319.2,f:=Tryz.func319 }
end X
end
end Go.AM
