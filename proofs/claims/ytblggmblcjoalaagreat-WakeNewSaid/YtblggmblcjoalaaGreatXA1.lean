/- Contracts of functions over the abstract machine. No conditions. -/
import Derived.Test.YtblggmblcjoalaaGreatXN
set_option maxRecDepth 100000
namespace Go.AM
noncomputable section
open Go.Proofs
namespace X
def q10:FA Tryz.f10:=⟨_,by conv=>lhs;cbv⟩
def a10:=q10.1
theorem g10:GK 10 Tryz.f10 a10:={ c:=q10.2,f:=Tryz.func10 }
def q41:FA Tryz.f41:=⟨_,by conv=>lhs;cbv⟩
def a41:=q41.1
theorem g41:GK 41 Tryz.f41 a41:={ c:=q41.2,f:=Tryz.func41 }
def q45:FA Tryz.f45:=⟨_,by conv=>lhs;cbv⟩
def a45:=q45.1
theorem g45:GK 45 Tryz.f45 a45:={ c:=q45.2,f:=Tryz.func45 }
def q48:FA Tryz.f48:=⟨_,by conv=>lhs;cbv⟩
def a48:=q48.1
theorem g48:GK 48 Tryz.f48 a48:={ c:=q48.2,f:=Tryz.func48 }
def q62:FA Tryz.f62:=⟨_,by conv=>lhs;cbv⟩
def a62:=q62.1
theorem g62:GK 62 Tryz.f62 a62:={ c:=q62.2,f:=Tryz.func62 }
def a65:AFn:=⟨(.seq (.reg [.mk 11 (.mv (.t 1)) none,.mk 12 (.len (.t 10)) none,.mk 13 (.mv (.c (.int .i64 0))) none]) (.block 0 (.loop (.seq (.reg [.mk 14 (.bin .lss (.t 12) (.t 11)) none]) (.seq (.cond (.t 13) .skip (.exit 0)) (.seq (.block 1 (.seq (.reg [.mk 15 (.ixs 4 (.t 10) (.t 12)) none,.mk 16 (.ldn 4 (.t 14)) none,.mk 6 (.new 167 4 [(.int .i64 0),.nils,.nils,.nils]) none,.mk 0 (.st 4 (.t 5) (.t 15)) none]) (.seq (.reg [.mk 18 (.mv (.t 0)) none,.mk 19 (.nilck (.t 17)) none,.mk 20 (.fa 0 (.t 18)) none,.mk 21 (.fa 0 (.t 19)) none,.mk 22 (.ldn 6 (.t 20)) none,.mk 23 (.fa 0 (.t 5)) none,.mk 24 (.ld1 (.t 22)) none,.mk 7 (.new 60 6 [(.int .i64 0),.nils,.nils,(.int .u8 0),(.bool false),(.int .u32 0)]) none,.mk 25 (.scall 137 [(.t 21),(.t 23)]) none,.mk 17 (.mv (.t 24)) none,.mk 26 (.ext (.t 16) 0) none,.mk 27 (.ext (.t 16) 1) none,.mk 0 (.st 6 (.t 6) (.t 25)) none,.mk 8 (.mv (.t 26)) none]) (.seq (.seq (.reg [.mk 28 (.fa 1 (.t 5)) none,.mk 29 (.ld1 (.t 27)) none,.mk 30 (.len (.t 28)) none,.mk 31 (.mv (.c (.int .i64 0))) none]) (.block 2 (.loop (.seq (.reg [.mk 32 (.bin .lss (.t 30) (.t 29)) none]) (.seq (.cond (.t 31) .skip (.exit 2)) (.seq (.block 3 (.seq (.reg [.mk 33 (.mv (.t 30)) none,.mk 34 (.ixs 1 (.t 28) (.t 30)) none,.mk 35 (.ld1 (.t 33)) none,.mk 9 (.mv (.t 32)) none,.mk 10 (.mv (.t 34)) none]) (.reg [.mk 37 (.mv (.t 0)) none,.mk 38 (.nilck (.t 36)) none,.mk 39 (.fa 0 (.t 37)) none,.mk 40 (.fa 0 (.t 38)) none,.mk 41 (.ldn 6 (.t 39)) none,.mk 42 (.ldn 6 (.t 6)) none,.mk 43 (.mv (.t 9)) none,.mk 44 (.fa 2 (.t 5)) none,.mk 45 (.ld1 (.t 43)) none,.mk 46 (.mv (.t 8)) none,.mk 47 (.ixs 1 (.t 44) (.t 45)) none,.mk 48 (.ld1 (.t 46)) none,.mk 49 (.scall 138 [(.t 40),(.t 41),(.t 42),(.t 47)]) none,.mk 36 (.mv (.t 48)) none,.mk 50 (.ext (.t 35) 0) none,.mk 51 (.ext (.t 35) 1) none,.mk 0 (.st 6 (.t 6) (.t 49)) none]))) (.reg [.mk 52 (.bin .add (.t 30) (.c (.int .i64 1))) none,.mk 31 (.mv (.t 51)) none]))))))) (.seq (.reg [.mk 53 (.fa 4 (.t 6)) none,.mk 0 (.st 1 (.t 52) (.c (.bool true))) none]) (.reg [.mk 55 (.mv (.t 0)) none,.mk 56 (.mv (.t 0)) none,.mk 57 (.nilck (.t 55)) none,.mk 58 (.fa 0 (.t 56)) none,.mk 59 (.fa 0 (.t 57)) none,.mk 60 (.ldn 6 (.t 58)) none,.mk 61 (.mv (.t 0)) none,.mk 62 (.nilck (.t 60)) none,.mk 63 (.fa 0 (.t 61)) none,.mk 64 (.fa 14 (.t 62)) none,.mk 65 (.ld1 (.t 63)) none,.mk 66 (.ldn 6 (.t 6)) none,.mk 67 (.scall 139 [(.t 59),(.t 64),(.t 65)]) none,.mk 54 (.mv (.t 66)) none,.mk 68 (.ext (.t 53) 0) none,.mk 69 (.ext (.t 53) 1) none,.mk 70 (.nilck (.t 54)) none,.mk 71 (.fa 0 (.t 69)) none,.mk 72 (.fa 14 (.t 70)) none,.mk 0 (.st 1 (.t 71) (.t 67)) none])))))) (.reg [.mk 73 (.bin .add (.t 12) (.c (.int .i64 1))) none,.mk 13 (.mv (.t 72)) none]))))))),[]⟩
theorem g65:GK 65 Tryz.f65 a65:=⟨by kernel_rfl,Tryz.func65,by kernel_rfl⟩
def q73:FA Tryz.f73:=⟨_,by conv=>lhs;cbv⟩
def a73:=q73.1
theorem g73:GK 73 Tryz.f73 a73:={ c:=q73.2,f:=Tryz.func73 }
def q74:FA Tryz.f74:=⟨_,by conv=>lhs;cbv⟩
def a74:=q74.1
theorem g74:GK 74 Tryz.f74 a74:={ c:=q74.2,f:=Tryz.func74 }
def q78:FA Tryz.f78:=⟨_,by conv=>lhs;cbv⟩
def a78:=q78.1
theorem g78:GK 78 Tryz.f78 a78:={ c:=q78.2,f:=Tryz.func78 }
def q81:FA Tryz.f81:=⟨_,by conv=>lhs;cbv⟩
def a81:=q81.1
theorem g81:GK 81 Tryz.f81 a81:={ c:=q81.2,f:=Tryz.func81 }
def q82:FA Tryz.f82:=⟨_,by conv=>lhs;cbv⟩
def a82:=q82.1
theorem g82:GK 82 Tryz.f82 a82:={ c:=q82.2,f:=Tryz.func82 }
def q93:FA Tryz.f93:=⟨_,by conv=>lhs;cbv⟩
def a93:=q93.1
theorem g93:GK 93 Tryz.f93 a93:={ c:=q93.2,f:=Tryz.func93 }
def q96:FA Tryz.f96:=⟨_,by conv=>lhs;cbv⟩
def a96:=q96.1
theorem g96:GK 96 Tryz.f96 a96:={ c:=q96.2,f:=Tryz.func96 }
def q102:FA Tryz.f102:=⟨_,by conv=>lhs;cbv⟩
def a102:=q102.1
theorem g102:GK 102 Tryz.f102 a102:={ c:=q102.2,f:=Tryz.func102 }
def q107:FA Tryz.f107:=⟨_,by conv=>lhs;cbv⟩
def a107:=q107.1
theorem g107:GK 107 Tryz.f107 a107:={ c:=q107.2,f:=Tryz.func107 }
def q109:FA Tryz.f109:=⟨_,by conv=>lhs;cbv⟩
def a109:=q109.1
theorem g109:GK 109 Tryz.f109 a109:={ c:=q109.2,f:=Tryz.func109 }
def q130:FA Tryz.f130:=⟨_,by conv=>lhs;cbv⟩
def a130:=q130.1
theorem g130:GK 130 Tryz.f130 a130:={ c:=q130.2,f:=Tryz.func130 }
def a156:AFn:=⟨(.seq (.reg [.mk 3 (.new 76 4 [(.int .u32 0),(.int .u32 0),(.int .u32 0),(.int .i64 0)]) none,.mk 4 (.mv (.c (.int .i64 0))) none]) (.seq (.reg [.mk 0 (.bad) none]) (.seq (.seq (.reg [.mk 17 (.mv (.t 4)) none,.mk 18 (.rngm (.t 16)) none]) (.block 0 (.loop (.seq (.reg [.mk 19 (.nextm (.t 17)) none,.mk 20 (.ext (.t 18) 0) none]) (.seq (.cond (.t 19) .skip (.exit 0)) (.block 1 (.seq (.reg [.mk 21 (.entm (.t 17)) none,.mk 22 (.ext (.t 20) 0) none,.mk 23 (.ext (.t 20) 1) none,.mk 6 (.mv (.t 21)) none,.mk 7 (.mv (.t 22)) none]) (.seq (.reg [.mk 25 (.mv (.t 0)) none,.mk 26 (.mv (.t 6)) none,.mk 27 (.scall 165 [(.t 24),(.t 25),(.c (.int .i64 4))]) none,.mk 24 (.mv (.t 26)) none,.mk 28 (.ext (.t 23) 0) none,.mk 29 (.ext (.t 23) 1) none,.mk 8 (.mv (.t 27)) none,.mk 9 (.mv (.t 28)) none]) (.seq (.seq (.reg [.mk 30 (.mv (.t 8)) none,.mk 31 (.bin .neq (.t 29) (.c (.int .i64 0))) none]) (.cond (.t 30) (.seq (.reg [.mk 32 (.build [(.int .u32 0),(.int .u32 0),(.int .u32 0),(.int .i64 0)] []) none,.mk 33 (.mv (.t 8)) none,.mk 0 (.st 4 (.t 2) (.t 31)) none,.mk 4 (.mv (.t 32)) none]) .ret) .skip)) (.reg [.mk 34 (.mv (.t 5)) none,.mk 35 (.mv (.t 7)) none,.mk 36 (.cvi .u32 (.t 34)) none,.mk 37 (.nilck (.t 33)) none,.mk 0 (.st 1 (.t 36) (.t 35)) none])))))))))) (.seq (.reg [.mk 39 (.mv (.t 0)) none,.mk 40 (.scall 165 [(.t 38),(.c (.int .i64 13)),(.c (.int .i64 1))]) none,.mk 38 (.mv (.t 39)) none,.mk 41 (.ext (.t 37) 0) none,.mk 42 (.ext (.t 37) 1) none,.mk 43 (.fa 3 (.t 2)) none,.mk 0 (.st 1 (.t 42) (.t 40)) none]) (.seq (.seq (.reg [.mk 45 (.ldn 4 (.t 2)) none,.mk 46 (.scall 45 [(.t 44)]) none,.mk 44 (.mv (.t 45)) none,.mk 47 (.ext (.t 43) 0) none,.mk 48 (.ext (.t 43) 1) none,.mk 10 (.mv (.t 46)) none,.mk 11 (.mv (.t 47)) none]) (.seq (.reg [.mk 49 (.mv (.t 10)) none,.mk 50 (.bin .neq (.t 48) (.c (.int .i64 0))) none,.mk 51 (.mv (.t 49)) none,.mk 52 (.mv (.t 9)) (some (50,false)),.mk 53 (.b2s (.t 51)) (some (50,false)),.mk 54 (.mv (.t 0)) (some (50,false)),.mk 55 (.b2s (.t 53)) (some (50,false)),.mk 56 (.bin .neq (.t 52) (.t 54)) (some (50,false)),.mk 57 (.pick (.t 50) (.c (.bool true)) (.t 55)) none]) (.cond (.t 56) (.seq (.reg [.mk 58 (.build [(.int .u32 0),(.int .u32 0),(.int .u32 0),(.int .i64 0)] []) none,.mk 0 (.st 4 (.t 2) (.t 57)) none,.mk 4 (.mv (.c (.int .i64 90))) none]) .ret) .skip))) (.seq (.reg [.mk 59 (.ldn 4 (.t 2)) none,.mk 0 (.st 4 (.t 2) (.t 58)) none,.mk 4 (.mv (.c (.int .i64 0))) none]) .ret)))))),[.cells 2 4,.tmp 3]⟩
theorem g156:GK 156 Tryz.f156 a156:=⟨by kernel_rfl,Tryz.func156,by kernel_rfl⟩
def q168:FA Tryz.f168:=⟨_,by conv=>lhs;cbv⟩
def a168:=q168.1
theorem g168:GK 168 Tryz.f168 a168:={ c:=q168.2,f:=Tryz.func168 }
def q172:FA Tryz.f172:=⟨_,by conv=>lhs;cbv⟩
def a172:=q172.1
theorem g172:GK 172 Tryz.f172 a172:={ c:=q172.2,f:=Tryz.func172 }
def q175:FA Tryz.f175:=⟨_,by conv=>lhs;cbv⟩
def a175:=q175.1
theorem g175:GK 175 Tryz.f175 a175:={ c:=q175.2,f:=Tryz.func175 }
def q181:FA Tryz.f181:=⟨_,by conv=>lhs;cbv⟩
def a181:=q181.1
theorem g181:GK 181 Tryz.f181 a181:={ c:=q181.2,f:=Tryz.func181 }
def q207:FA Tryz.f207:=⟨_,by conv=>lhs;cbv⟩
def a207:=q207.1
theorem g207:GK 207 Tryz.f207 a207:={ c:=q207.2,f:=Tryz.func207 }
def q218:FA Tryz.f218:=⟨_,by conv=>lhs;cbv⟩
def a218:=q218.1
theorem g218:GK 218 Tryz.f218 a218:={ c:=q218.2,f:=Tryz.func218 }
def q236:FA Tryz.f236:=⟨_,by conv=>lhs;cbv⟩
def a236:=q236.1
theorem g236:GK 236 Tryz.f236 a236:={ c:=q236.2,f:=Tryz.func236 }
def q248:FA Tryz.f248:=⟨_,by conv=>lhs;cbv⟩
def a248:=q248.1
theorem g248:GK 248 Tryz.f248 a248:={ c:=q248.2,f:=Tryz.func248 }
def q249:FA Tryz.f249:=⟨_,by conv=>lhs;cbv⟩
def a249:=q249.1
theorem g249:GK 249 Tryz.f249 a249:={ c:=q249.2,f:=Tryz.func249 }
def q268:FA Tryz.f268:=⟨_,by conv=>lhs;cbv⟩
def a268:=q268.1
theorem g268:GK 268 Tryz.f268 a268:={ c:=q268.2,f:=Tryz.func268 }
def q269:FA Tryz.f269:=⟨_,by conv=>lhs;cbv⟩
def a269:=q269.1
theorem g269:GK 269 Tryz.f269 a269:={ c:=q269.2,f:=Tryz.func269 }
def q277:FA Tryz.f277:=⟨_,by conv=>lhs;cbv⟩
def a277:=q277.1
theorem g277:GK 277 Tryz.f277 a277:={ c:=q277.2,f:=Tryz.func277 }
def q292:FA Tryz.f292:=⟨_,by conv=>lhs;cbv⟩
def a292:=q292.1
theorem g292:GK 292 Tryz.f292 a292:={ c:=q292.2,f:=Tryz.func292 }
def q294:FA Tryz.f294:=⟨_,by conv=>lhs;cbv⟩
def a294:=q294.1
theorem g294:GK 294 Tryz.f294 a294:={ c:=q294.2,f:=Tryz.func294 }
def q296:FA Tryz.f296:=⟨_,by conv=>lhs;cbv⟩
def a296:=q296.1
theorem g296:GK 296 Tryz.f296 a296:={ c:=q296.2,f:=Tryz.func296 }
def q320:FA Tryz.f320:=⟨_,by conv=>lhs;cbv⟩
def a320:=q320.1
theorem g320:GK 320 Tryz.f320 a320:={ c:=q320.2,f:=Tryz.func320 }
def q322:FA Tryz.f322:=⟨_,by conv=>lhs;cbv⟩
def a322:=q322.1
theorem g322:GK 322 Tryz.f322 a322:={ c:=q322.2,f:=Tryz.func322 }
end X
end
end Go.AM
