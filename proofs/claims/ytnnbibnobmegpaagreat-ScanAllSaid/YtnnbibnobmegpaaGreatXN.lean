/-
 Functions of the program as the abstract machine reads them, and what is stated of them, checked by the kernel. No conditions.
-/
import Derived.Test.YtnnbibnobmegpaaGreatChecked
import Derived.KernelRfl
import Derived.Test.YtnnbibnobmegpaaGreatAM5
set_option linter.unusedVariables false
set_option linter.unusedSimpArgs false
set_option linter.unnecessarySimpa false
set_option maxRecDepth 100000
namespace Go.AM
noncomputable section
open Go.Proofs
abbrev P:Program:=Tryz.prog
theorem Bl:P.follows .mixedOrders=true:=by kernel_rfl
abbrev FA (f:Func):={x:AFn // GI P f=some x}
structure GK (f:Nat) (fn:Func) (a:AFn):Prop where
 c:GI P fn=some a
 f:P.funcs[f]?=some fn
 n : (fn.name == "runtime.NumGoroutine") = false := by kernel_rfl
theorem GK.g {f:Nat}{fn:Func}{a:AFn}(g:GK f fn a):GOk P (f,a):=⟨fn,g.f,g.c,g.n⟩
theorem GK.b {f:Nat}{fn:Func}{a:AFn}(g:GK f fn a):G4 P f:=by
 have:=g.c
 unfold GI at this
 split at this
 ·exact ⟨fn,_,g.f,by assumption,g.n⟩
 ·cases this
theorem C.of_G {e:Env}{f:Nat}{fn:Func}{code:AC}{res:List ARes}{args:List AV}{Q:AV→St→Prop}(hE:EM P e) (g:GK f fn (.mk code res)) (h:VW P e 0 code (Ah args 0 .lf) St0 none [] (AR res Q)):C P f args St0 Q:=C.of_V hE g.f g.c h
theorem C1.of_G {e:Env}{f:Nat}{fn:Func}{code:AC}{res:List ARes}{args:List AV}{s:St}{Q:AV→St→Prop}(hE:EM P e) (g:GK f fn (.mk code res)) (h:VW P e s.next code (Ah args 0 .lf) s none [] (AR res Q)):C1 P f args s Q:=C1.of_V hE g.f g.c h
theorem Inl.k {e:Env}{f:Nat}{code:AC}{res:List ARes}(h:e.X.get f=none:=by rfl) (h1:e.O.get f=none:=by rfl) (h2:e.G.get f=some (.mk code res):=by kernel_rfl):Inl e f code res:=⟨h,h1,h2⟩
theorem Con.k {e:Env}{f:Nat}{o:Ov}(h:e.X.get f=none:=by rfl) (h1:e.O.get f=some o:=by rfl):Con e f o:=⟨h,h1⟩
abbrev AV.b : AV := .int .u8 0
abbrev AV.w : AV := .int .u32 0
abbrev AV.z : AV := .int .i64 0
abbrev AO.k (n : Int) : AO := .c (.int .i64 n)
abbrev AOp.l (n : Nat) : AOp := .ld1 (.t n)
abbrev AOp.f (i n : Nat) : AOp := .fa i (.t n)
abbrev AOper.v (d n : Nat) : AOper := .mk d (.mv (.t n)) none
abbrev AOper.o (d : Nat) (p : AOp) : AOper := .mk d p none
abbrev AOper.g (d : Nat) (p : AOp) (i : Nat) (b : Bool) : AOper := .mk d p (some (i, b))
namespace X
def a4:AFn:=⟨(.seq (.reg [.o 1 (.mv (.c (.bool false)))]) (.seq (.reg [.o 12 (.scall 18 []),.o 13 (.build [.w,.w,.w,.z] [(0,1,(.c (.int .u32 7))),(1,1,(.c (.int .u32 1))),(2,1,(.c (.int .u32 5))),(3,1,(.k 11))]),.o 14 (.scall 17 [.t 11,.t 12]),.v 11 13,.o 15 (.ext (.t 10) 0),.o 16 (.ext (.t 10) 1),.o 2 (.new 28 3 [.nils,.nils,(.bool false)]),.o 0 (.st 3 (.t 1) (.t 14)),.v 3 15]) (.seq (.reg [.o 19 (.ldn 3 (.t 1)),.o 4 (.new 28 3 [.nils,.nils,(.bool false)]),.o 18 (.scall 18 []),.chk 18 (.ldn 3 (.t 1)) none,.o 20 (.scall 20 [(.k 0),(.c (.bool true))]),.chk 18 (.ldn 3 (.t 1)) none,.o 21 (.scall 19 [(.t 17),(.t 18),(.k 11),(.c (.int .u32 1)),(.c (.int .u32 5)),(.t 19)]),.v 17 20,.o 22 (.ext (.t 16) 0),.o 23 (.ext (.t 16) 1),.o 0 (.st 3 (.t 3) (.t 21)),.v 5 22]) (.seq (.reg [.o 26 (.ldn 3 (.t 3)),.o 6 (.new 28 3 [.nils,.nils,(.bool false)]),.o 25 (.scall 18 []),.chk 25 (.ldn 3 (.t 3)) none,.o 27 (.scall 20 [(.k 1),(.c (.bool false))]),.chk 25 (.ldn 3 (.t 3)) none,.o 28 (.scall 19 [(.t 24),(.t 25),(.k 2),(.c (.int .u32 1)),(.c (.int .u32 6)),(.t 26)]),.v 24 27,.o 29 (.ext (.t 23) 0),.o 30 (.ext (.t 23) 1),.o 0 (.st 3 (.t 5) (.t 28)),.v 7 29]) (.seq (.reg [.o 33 (.ldn 3 (.t 5)),.o 8 (.new 45 4 [.w,.w,.w,.z]),.o 32 (.scall 18 []),.chk 32 (.ldn 3 (.t 5)) none,.o 34 (.scall 14 [.t 31,.t 32]),.v 31 33,.o 35 (.ext (.t 30) 0),.o 36 (.ext (.t 30) 1),.o 37 (.ext (.t 30) 2),.o 0 (.st 4 (.t 7) (.t 34)),.v 9 35,.v 10 36]) (.seq (.reg [.v 38 2,.v 39 37,.g 40 (.mv (.t 4)) 38 true,.o 41 (.pick (.t 38) (.t 39) (.c (.bool false))),.v 42 40,.g 43 (.mv (.t 6)) 41 true,.o 44 (.pick (.t 41) (.t 42) (.c (.bool false))),.v 45 43,.g 46 (.mv (.t 9)) 44 true,.g 47 (.bin .eql (.t 45) (.k 0)) 44 true,.o 48 (.pick (.t 44) (.t 46) (.c (.bool false))),.v 49 47,.g 50 (.f 3 7) 48 true,.g 51 (.l 49) 48 true,.g 52 (.bin .eql (.t 50) (.k 11)) 48 true,.o 53 (.pick (.t 48) (.t 51) (.c (.bool false))),.v 54 52,.g 55 (.mv (.t 8)) 53 true,.g 56 (.len (.t 54)) 53 true,.g 57 (.bin .eql (.t 55) (.k 2)) 53 true,.o 58 (.pick (.t 53) (.t 56) (.c (.bool false))),.v 59 57,.g 60 (.mv (.t 8)) 58 true,.g 61 (.ixs 6 (.t 59) (.k 0)) 58 true,.g 62 (.f 1 60) 58 true,.g 63 (.l 61) 58 true,.g 64 (.bin .eql (.t 62) (.c (.int .u32 5))) 58 true,.o 65 (.pick (.t 58) (.t 63) (.c (.bool false))),.v 66 64,.g 67 (.mv (.t 8)) 65 true,.g 68 (.ixs 6 (.t 66) (.k 1)) 65 true,.g 69 (.f 1 67) 65 true,.g 70 (.l 68) 65 true,.g 71 (.bin .eql (.t 69) (.c (.int .u32 6))) 65 true,.o 72 (.pick (.t 65) (.t 70) (.c (.bool false))),.v 73 71,.g 74 (.mv (.t 8)) 72 true,.g 75 (.ixs 6 (.t 73) (.k 1)) 72 true,.g 76 (.f 2 74) 72 true,.g 77 (.ldn 4 (.t 75)) 72 true,.g 78 (.scall 20 [(.k 1),(.c (.bool false))]) 72 true,.chk 76 (.ldn 4 (.t 75)) (some (72,true)),.g 79 (.scall 16 [.t 76,.t 77]) 72 true,.o 80 (.pick (.t 72) (.t 78) (.c (.bool false))),.v 1 79]) .ret)))))),[.tmp 0]⟩
theorem g4:GK 4 Tryz.f4 a4:=⟨by kernel_rfl,Tryz.func4,by kernel_rfl⟩
def q9:FA Tryz.f9:=⟨_,by conv=>lhs;cbv⟩
def a9:=q9.1
theorem g9:GK 9 Tryz.f9 a9:={ c:=q9.2,f:=Tryz.func9 }
def q10:FA Tryz.f10:=⟨_,by conv=>lhs;cbv⟩
def a10:=q10.1
theorem g10:GK 10 Tryz.f10 a10:={ c:=q10.2,f:=Tryz.func10 }
def q14:FA Tryz.f14:=⟨_,by conv=>lhs;cbv⟩
def a14:=q14.1
theorem g14:GK 14 Tryz.f14 a14:={ c:=q14.2,f:=Tryz.func14 }
def q16:FA Tryz.f16:=⟨_,by conv=>lhs;cbv⟩
def Np:=q16.1
theorem g16:GK 16 Tryz.f16 Np:={ c:=q16.2,f:=Tryz.func16 }
def q17:FA Tryz.f17:=⟨_,by conv=>lhs;cbv⟩
def a17:=q17.1
theorem g17:GK 17 Tryz.f17 a17:={ c:=q17.2,f:=Tryz.func17 }
def q18:FA Tryz.f18:=⟨_,by conv=>lhs;cbv⟩
def a18:=q18.1
theorem g18:GK 18 Tryz.f18 a18:={ c:=q18.2,f:=Tryz.func18 }
def q19:FA Tryz.f19:=⟨_,by conv=>lhs;cbv⟩
def a19:=q19.1
theorem g19:GK 19 Tryz.f19 a19:={ c:=q19.2,f:=Tryz.func19 }
def q20:FA Tryz.f20:=⟨_,by conv=>lhs;cbv⟩
def a20:=q20.1
theorem g20:GK 20 Tryz.f20 a20:={ c:=q20.2,f:=Tryz.func20 }
def q22:FA Tryz.f22:=⟨_,by conv=>lhs;cbv⟩
def a22:=q22.1
theorem g22:GK 22 Tryz.f22 a22:={ c:=q22.2,f:=Tryz.func22 }
def q24:FA Tryz.f24:=⟨_,by conv=>lhs;cbv⟩
def Nn:=q24.1
theorem g24:GK 24 Tryz.f24 Nn:={ c:=q24.2,f:=Tryz.func24 }
def q25:FA Tryz.f25:=⟨_,by conv=>lhs;cbv⟩
def a25:=q25.1
theorem g25:GK 25 Tryz.f25 a25:={ c:=q25.2,f:=Tryz.func25 }
def q26:FA Tryz.f26:=⟨_,by conv=>lhs;cbv⟩
def a26:=q26.1
theorem g26:GK 26 Tryz.f26 a26:={ c:=q26.2,f:=Tryz.func26 }
def q27:FA Tryz.f27:=⟨_,by conv=>lhs;cbv⟩
def a27:=q27.1
theorem g27:GK 27 Tryz.f27 a27:={ c:=q27.2,f:=Tryz.func27 }
def q28:FA Tryz.f28:=⟨_,by conv=>lhs;cbv⟩
def a28:=q28.1
theorem g28:GK 28 Tryz.f28 a28:={ c:=q28.2,f:=Tryz.func28 }
def q29:FA Tryz.f29:=⟨_,by conv=>lhs;cbv⟩
def a29:=q29.1
theorem g29:GK 29 Tryz.f29 a29:={ c:=q29.2,f:=Tryz.func29 }
def q30:FA Tryz.f30:=⟨_,by conv=>lhs;cbv⟩
def a30:=q30.1
theorem g30:GK 30 Tryz.f30 a30:={ c:=q30.2,f:=Tryz.func30 }
def q31:FA Tryz.f31:=⟨_,by conv=>lhs;cbv⟩
def Nm:=q31.1
theorem g31:GK 31 Tryz.f31 Nm:={ c:=q31.2,f:=Tryz.func31 }
def q32:FA Tryz.f32:=⟨_,by conv=>lhs;cbv⟩
def a32:=q32.1
theorem g32:GK 32 Tryz.f32 a32:={ c:=q32.2,f:=Tryz.func32 }
def q33:FA Tryz.f33:=⟨_,by conv=>lhs;cbv⟩
def a33:=q33.1
theorem g33:GK 33 Tryz.f33 a33:={ c:=q33.2,f:=Tryz.func33 }
def q34:FA Tryz.f34:=⟨_,by conv=>lhs;cbv⟩
def a34:=q34.1
theorem g34:GK 34 Tryz.f34 a34:={ c:=q34.2,f:=Tryz.func34 }
def q40:FA Tryz.f40:=⟨_,by conv=>lhs;cbv⟩
def Nl:=q40.1
theorem g40:GK 40 Tryz.f40 Nl:={ c:=q40.2,f:=Tryz.func40 }
def q43:FA Tryz.f43:=⟨_,by conv=>lhs;cbv⟩
def a43:=q43.1
theorem g43:GK 43 Tryz.f43 a43:={ c:=q43.2,f:=Tryz.func43 }
def q44:FA Tryz.f44:=⟨_,by conv=>lhs;cbv⟩
def a44:=q44.1
theorem g44:GK 44 Tryz.f44 a44:={ c:=q44.2,f:=Tryz.func44 }
def q45:FA Tryz.f45:=⟨_,by conv=>lhs;cbv⟩
def a45:=q45.1
theorem g45:GK 45 Tryz.f45 a45:={ c:=q45.2,f:=Tryz.func45 }
def q47:FA Tryz.f47:=⟨_,by conv=>lhs;cbv⟩
def a47:=q47.1
theorem g47:GK 47 Tryz.f47 a47:={ c:=q47.2,f:=Tryz.func47 }
def q48:FA Tryz.f48:=⟨_,by conv=>lhs;cbv⟩
def a48:=q48.1
theorem g48:GK 48 Tryz.f48 a48:={ c:=q48.2,f:=Tryz.func48 }
def q49:FA Tryz.f49:=⟨_,by conv=>lhs;cbv⟩
def a49:=q49.1
theorem g49:GK 49 Tryz.f49 a49:={ c:=q49.2,f:=Tryz.func49 }
def q50:FA Tryz.f50:=⟨_,by conv=>lhs;cbv⟩
def a50:=q50.1
theorem g50:GK 50 Tryz.f50 a50:={ c:=q50.2,f:=Tryz.func50 }
def q51:FA Tryz.f51:=⟨_,by conv=>lhs;cbv⟩
def Nk:=q51.1
theorem g51:GK 51 Tryz.f51 Nk:={ c:=q51.2,f:=Tryz.func51 }
def q56:FA Tryz.f56:=⟨_,by conv=>lhs;cbv⟩
def Ni:=q56.1
theorem g56:GK 56 Tryz.f56 Ni:={ c:=q56.2,f:=Tryz.func56 }
def q57:FA Tryz.f57:=⟨_,by conv=>lhs;cbv⟩
def a57:=q57.1
theorem g57:GK 57 Tryz.f57 a57:={ c:=q57.2,f:=Tryz.func57 }
def q58:FA Tryz.f58:=⟨_,by conv=>lhs;cbv⟩
def a58:=q58.1
theorem g58:GK 58 Tryz.f58 a58:={ c:=q58.2,f:=Tryz.func58 }
def q59:FA Tryz.f59:=⟨_,by conv=>lhs;cbv⟩
def a59:=q59.1
theorem g59:GK 59 Tryz.f59 a59:={ c:=q59.2,f:=Tryz.func59 }
def q60:FA Tryz.f60:=⟨_,by conv=>lhs;cbv⟩
def a60:=q60.1
theorem g60:GK 60 Tryz.f60 a60:={ c:=q60.2,f:=Tryz.func60 }
def q61:FA Tryz.f61:=⟨_,by conv=>lhs;cbv⟩
def a61:=q61.1
theorem g61:GK 61 Tryz.f61 a61:={ c:=q61.2,f:=Tryz.func61 }
def q62:FA Tryz.f62:=⟨_,by conv=>lhs;cbv⟩
def a62:=q62.1
theorem g62:GK 62 Tryz.f62 a62:={ c:=q62.2,f:=Tryz.func62 }
def q63:FA Tryz.f63:=⟨_,by conv=>lhs;cbv⟩
def a63:=q63.1
theorem g63:GK 63 Tryz.f63 a63:={ c:=q63.2,f:=Tryz.func63 }
def q64:FA Tryz.f64:=⟨_,by conv=>lhs;cbv⟩
def a64:=q64.1
theorem g64:GK 64 Tryz.f64 a64:={ c:=q64.2,f:=Tryz.func64 }
def q65:FA Tryz.f65:=⟨_,by conv=>lhs;cbv⟩
def a65:=q65.1
theorem g65:GK 65 Tryz.f65 a65:={ c:=q65.2,f:=Tryz.func65 }
def q66:FA Tryz.f66:=⟨_,by conv=>lhs;cbv⟩
def a66:=q66.1
theorem g66:GK 66 Tryz.f66 a66:={ c:=q66.2,f:=Tryz.func66 }
def q67:FA Tryz.f67:=⟨_,by conv=>lhs;cbv⟩
def a67:=q67.1
theorem g67:GK 67 Tryz.f67 a67:={ c:=q67.2,f:=Tryz.func67 }
def q68:FA Tryz.f68:=⟨_,by conv=>lhs;cbv⟩
def a68:=q68.1
theorem g68:GK 68 Tryz.f68 a68:={ c:=q68.2,f:=Tryz.func68 }
def q69:FA Tryz.f69:=⟨_,by conv=>lhs;cbv⟩
def Nh:=q69.1
theorem g69:GK 69 Tryz.f69 Nh:={ c:=q69.2,f:=Tryz.func69 }
def q70:FA Tryz.f70:=⟨_,by conv=>lhs;cbv⟩
def a70:=q70.1
theorem g70:GK 70 Tryz.f70 a70:={ c:=q70.2,f:=Tryz.func70 }
def q71:FA Tryz.f71:=⟨_,by conv=>lhs;cbv⟩
def a71:=q71.1
theorem g71:GK 71 Tryz.f71 a71:={ c:=q71.2,f:=Tryz.func71 }
def q73:FA Tryz.f73:=⟨_,by conv=>lhs;cbv⟩
def a73:=q73.1
theorem g73:GK 73 Tryz.f73 a73:={ c:=q73.2,f:=Tryz.func73 }
def q74:FA Tryz.f74:=⟨_,by conv=>lhs;cbv⟩
def a74:=q74.1
theorem g74:GK 74 Tryz.f74 a74:={ c:=q74.2,f:=Tryz.func74 }
def q78:FA Tryz.f78:=⟨_,by conv=>lhs;cbv⟩
def a78:=q78.1
theorem g78:GK 78 Tryz.f78 a78:={ c:=q78.2,f:=Tryz.func78 }
def Ng:AFn:=⟨(.seq (.reg [.o 3 (.new 45 4 [.w,.w,.w,.z]),.o 4 (.mv (.k 0))]) (.seq (.reg [.o 0 (.bad)]) (.seq (.seq (.reg [.v 17 4,.o 18 (.rngm (.t 16))]) (.block 0 (.loop (.seq (.reg [.o 19 (.nextm (.t 17)),.o 20 (.ext (.t 18) 0)]) (.seq (.cond (.t 19) .skip (.exit 0)) (.block 1 (.seq (.reg [.o 21 (.entm (.t 17)),.o 22 (.ext (.t 20) 0),.o 23 (.ext (.t 20) 1),.v 6 21,.v 7 22]) (.seq (.reg [.v 25 0,.v 26 6,.o 27 (.scall 62 [.t 24,.t 25,.k 4]),.v 24 26,.o 28 (.ext (.t 23) 0),.o 29 (.ext (.t 23) 1),.v 8 27,.v 9 28]) (.seq (.seq (.reg [.v 30 8,.o 31 (.bin .neq (.t 29) (.k 0))]) (.cond (.t 30) (.seq (.reg [.o 32 (.build [.w,.w,.w,.z] []),.v 33 8,.o 0 (.st 4 (.t 2) (.t 31)),.v 4 32]) .ret) .skip)) (.reg [.v 34 5,.v 35 7,.o 36 (.cvi .u32 (.t 34)),.o 37 (.nilck (.t 33)),.o 0 (.st 1 (.t 36) (.t 35))])))))))))) (.seq (.reg [.v 39 0,.o 40 (.scall 62 [.t 38,.k 13,.k 1]),.v 38 39,.o 41 (.ext (.t 37) 0),.o 42 (.ext (.t 37) 1),.o 43 (.f 3 2),.o 0 (.st 1 (.t 42) (.t 40))]) (.seq (.seq (.reg [.o 45 (.ldn 4 (.t 2)),.o 46 (.scall 9 [.t 44]),.v 44 45,.o 47 (.ext (.t 43) 0),.o 48 (.ext (.t 43) 1),.v 10 46,.v 11 47]) (.seq (.reg [.v 49 10,.o 50 (.bin .neq (.t 48) (.k 0)),.v 51 49,.g 52 (.mv (.t 9)) 50 false,.g 53 (.b2s (.t 51)) 50 false,.g 54 (.mv (.t 0)) 50 false,.g 55 (.b2s (.t 53)) 50 false,.g 56 (.bin .neq (.t 52) (.t 54)) 50 false,.o 57 (.pick (.t 50) (.c (.bool true)) (.t 55))]) (.cond (.t 56) (.seq (.reg [.o 58 (.build [.w,.w,.w,.z] []),.o 0 (.st 4 (.t 2) (.t 57)),.o 4 (.mv (.k 90))]) .ret) .skip))) (.seq (.reg [.o 59 (.ldn 4 (.t 2)),.o 0 (.st 4 (.t 2) (.t 58)),.o 4 (.mv (.k 0))]) .ret)))))),[.cells 2 4,.tmp 3]⟩
theorem g79:GK 79 Tryz.f79 Ng:=⟨by kernel_rfl,Tryz.func79,by kernel_rfl⟩
def q80:FA Tryz.f80:=⟨_,by conv=>lhs;cbv⟩
def a80:=q80.1
theorem g80:GK 80 Tryz.f80 a80:={ c:=q80.2,f:=Tryz.func80 }
def q81:FA Tryz.f81:=⟨_,by conv=>lhs;cbv⟩
def a81:=q81.1
theorem g81:GK 81 Tryz.f81 a81:={ c:=q81.2,f:=Tryz.func81 }
def q82:FA Tryz.f82:=⟨_,by conv=>lhs;cbv⟩
def a82:=q82.1
theorem g82:GK 82 Tryz.f82 a82:={ c:=q82.2,f:=Tryz.func82 }
def q84:FA Tryz.f84:=⟨_,by conv=>lhs;cbv⟩
def a84:=q84.1
theorem g84:GK 84 Tryz.f84 a84:={ c:=q84.2,f:=Tryz.func84 }
def q85:FA Tryz.f85:=⟨_,by conv=>lhs;cbv⟩
def a85:=q85.1
theorem g85:GK 85 Tryz.f85 a85:={ c:=q85.2,f:=Tryz.func85 }
def q86:FA Tryz.f86:=⟨_,by conv=>lhs;cbv⟩
def Nf:=q86.1
theorem g86:GK 86 Tryz.f86 Nf:={ c:=q86.2,f:=Tryz.func86 }
def q89:FA Tryz.f89:=⟨_,by conv=>lhs;cbv⟩
def a89:=q89.1
theorem g89:GK 89 Tryz.f89 a89:={ c:=q89.2,f:=Tryz.func89 }
def q90:FA Tryz.f90:=⟨_,by conv=>lhs;cbv⟩
def a90:=q90.1
theorem g90:GK 90 Tryz.f90 a90:={ c:=q90.2,f:=Tryz.func90 }
def q91:FA Tryz.f91:=⟨_,by conv=>lhs;cbv⟩
def a91:=q91.1
theorem g91:GK 91 Tryz.f91 a91:={ c:=q91.2,f:=Tryz.func91 }
def q92:FA Tryz.f92:=⟨_,by conv=>lhs;cbv⟩
def a92:=q92.1
theorem g92:GK 92 Tryz.f92 a92:={ c:=q92.2,f:=Tryz.func92 }
def q93:FA Tryz.f93:=⟨_,by conv=>lhs;cbv⟩
def Nd:=q93.1
theorem g93:GK 93 Tryz.f93 Nd:={ c:=q93.2,f:=Tryz.func93 }
def q94:FA Tryz.f94:=⟨_,by conv=>lhs;cbv⟩
def a94:=q94.1
theorem g94:GK 94 Tryz.f94 a94:={ c:=q94.2,f:=Tryz.func94 }
def q95:FA Tryz.f95:=⟨_,by conv=>lhs;cbv⟩
def a95:=q95.1
theorem g95:GK 95 Tryz.f95 a95:={ c:=q95.2,f:=Tryz.func95 }
def q97:FA Tryz.f97:=⟨_,by conv=>lhs;cbv⟩
def a97:=q97.1
theorem g97:GK 97 Tryz.f97 a97:={ c:=q97.2,f:=Tryz.func97 }
def q98:FA Tryz.f98:=⟨_,by conv=>lhs;cbv⟩
def a98:=q98.1
theorem g98:GK 98 Tryz.f98 a98:={ c:=q98.2,f:=Tryz.func98 }
def q99:FA Tryz.f99:=⟨_,by conv=>lhs;cbv⟩
def a99:=q99.1
theorem g99:GK 99 Tryz.f99 a99:={ c:=q99.2,f:=Tryz.func99 }
def q101:FA Tryz.f101:=⟨_,by conv=>lhs;cbv⟩
def PB:=q101.1
theorem g101:GK 101 Tryz.f101 PB:={ c:=q101.2,f:=Tryz.func101 }
def q102:FA Tryz.f102:=⟨_,by conv=>lhs;cbv⟩
def PA:=q102.1
theorem g102:GK 102 Tryz.f102 PA:={ c:=q102.2,f:=Tryz.func102 }
def q103:FA Tryz.f103:=⟨_,by conv=>lhs;cbv⟩
def P9:=q103.1
theorem g103:GK 103 Tryz.f103 P9:={ c:=q103.2,f:=Tryz.func103 }
def q104:FA Tryz.f104:=⟨_,by conv=>lhs;cbv⟩
def P8:=q104.1
theorem g104:GK 104 Tryz.f104 P8:={ c:=q104.2,f:=Tryz.func104 }
def q107:FA Tryz.f107:=⟨_,by conv=>lhs;cbv⟩
def S6:=q107.1
theorem g107:GK 107 Tryz.f107 S6:={ c:=q107.2,f:=Tryz.func107 }
def q109:FA Tryz.f109:=⟨_,by conv=>lhs;cbv⟩
def JU:=q109.1
theorem g109:GK 109 Tryz.f109 JU:={ c:=q109.2,f:=Tryz.func109 }
def q110:FA Tryz.f110:=⟨_,by conv=>lhs;cbv⟩
def P6:=q110.1
theorem g110:GK 110 Tryz.f110 P6:={ c:=q110.2,f:=Tryz.func110 }
def q111:FA Tryz.f111:=⟨_,by conv=>lhs;cbv⟩
def S4:=q111.1
theorem g111:GK 111 Tryz.f111 S4:={ c:=q111.2,f:=Tryz.func111 }
def q112:FA Tryz.f112:=⟨_,by conv=>lhs;cbv⟩
def P5:=q112.1
theorem g112:GK 112 Tryz.f112 P5:={ c:=q112.2,f:=Tryz.func112 }
def q113:FA Tryz.f113:=⟨_,by conv=>lhs;cbv⟩
def S3:=q113.1
theorem g113:GK 113 Tryz.f113 S3:={ c:=q113.2,f:=Tryz.func113 }
def q114:FA Tryz.f114:=⟨_,by conv=>lhs;cbv⟩
def S2:=q114.1
theorem g114:GK 114 Tryz.f114 S2:={ c:=q114.2,f:=Tryz.func114 }
def q115:FA Tryz.f115:=⟨_,by conv=>lhs;cbv⟩
def S0:=q115.1
theorem g115:GK 115 Tryz.f115 S0:={ c:=q115.2,f:=Tryz.func115 }
def JY:T AFn:=(.nd none (.nd none (.nd none (.nd none (.nd none (.nd (some Nm) (.nd (some a63) .lf .lf) (.nd (some a95) .lf .lf)) (.nd (some a47) (.nd (some Ng) .lf .lf) (.nd (some S4) .lf .lf))) (.nd none (.nd none (.nd (some a71) .lf .lf) (.nd (some P9) .lf .lf)) .lf)) (.nd none (.nd (some a19) (.nd none (.nd (some a67) .lf .lf) (.nd (some a99) .lf .lf)) (.nd (some Nk) .lf (.nd (some S0) .lf .lf))) (.nd (some a27) (.nd (some a43) .lf (.nd (some S6) .lf .lf)) (.nd (some a59) (.nd (some a91) .lf .lf) .lf)))) (.nd none (.nd (some a9) (.nd (some a17) (.nd (some a33) (.nd (some a65) .lf .lf) (.nd (some a97) .lf .lf)) (.nd (some a49) (.nd (some a81) .lf .lf) (.nd (some S3) .lf .lf))) (.nd (some a25) (.nd none (.nd (some a73) .lf .lf) .lf) (.nd (some a57) (.nd (some a89) .lf .lf) .lf))) (.nd none (.nd none (.nd none (.nd (some Nh) .lf .lf) (.nd (some PB) .lf .lf)) (.nd none (.nd (some a85) .lf .lf) .lf)) (.nd (some a29) (.nd (some a45) .lf (.nd (some JU) .lf .lf)) (.nd (some a61) (.nd (some Nd) .lf .lf) .lf))))) (.nd none (.nd (some a4) (.nd none (.nd (some Np) (.nd (some a32) (.nd (some a64) .lf .lf) .lf) (.nd (some a48) (.nd (some a80) .lf .lf) (.nd (some P5) .lf .lf))) (.nd (some Nn) (.nd (some Nl) .lf (.nd (some P8) .lf .lf)) (.nd (some Ni) .lf .lf))) (.nd none (.nd (some a20) (.nd none (.nd (some a68) .lf .lf) .lf) (.nd none (.nd (some a84) .lf .lf) .lf)) (.nd (some a28) (.nd (some a44) .lf .lf) (.nd (some a60) (.nd (some a92) .lf .lf) .lf)))) (.nd none (.nd (some a10) (.nd (some a18) (.nd (some a34) (.nd (some a66) .lf .lf) (.nd (some a98) .lf .lf)) (.nd (some a50) (.nd (some a82) .lf .lf) (.nd (some S2) .lf .lf))) (.nd (some a26) (.nd none (.nd (some a74) .lf .lf) .lf) (.nd (some a58) (.nd (some a90) .lf .lf) .lf))) (.nd (some a14) (.nd (some a22) (.nd none (.nd (some a70) .lf .lf) (.nd (some PA) .lf .lf)) (.nd none (.nd (some Nf) .lf .lf) .lf)) (.nd (some a30) (.nd none (.nd (some a78) .lf .lf) (.nd (some P6) .lf .lf)) (.nd (some a62) (.nd (some a94) .lf .lf) .lf))))))
def gl:List (Nat×AFn):=[(4,a4),(9,a9),(10,a10),(14,a14),(16,Np),(17,a17),(18,a18),(19,a19),(20,a20),(22,a22),(24,Nn),(25,a25),(26,a26),(27,a27),(28,a28),(29,a29),(30,a30),(31,Nm),(32,a32),(33,a33),(34,a34),(40,Nl),(43,a43),(44,a44),(45,a45),(47,a47),(48,a48),(49,a49),(50,a50),(51,Nk),(56,Ni),(57,a57),(58,a58),(59,a59),(60,a60),(61,a61),(62,a62),(63,a63),(64,a64),(65,a65),(66,a66),(67,a67),(68,a68),(69,Nh),(70,a70),(71,a71),(73,a73),(74,a74),(78,a78),(79,Ng),(80,a80),(81,a81),(82,a82),(84,a84),(85,a85),(86,Nf),(89,a89),(90,a90),(91,a91),(92,a92),(93,Nd),(94,a94),(95,a95),(97,a97),(98,a98),(99,a99),(101,PB),(102,PA),(103,P9),(104,P8),(107,S6),(109,JU),(110,P6),(111,S4),(112,P5),(113,S3),(114,S2),(115,S0)]
end X
end
end Go.AM
namespace Go.AM
noncomputable section
open Go.Proofs
namespace X
def a3:AFn:=⟨(.seq (.reg [.o 6 (.box 24 6 (.t 0)),.o 7 (.box 28 3 (.t 1)),.o 8 (.box 31 5 (.t 2)),.o 11 (.mv (.c (.bool false)))]) (.seq (.reg [.o 35 (.scall 4 []),.v 12 34]) (.seq (.seq (.reg [.o 36 (.ldn 3 (.t 6)),.o 37 (.scall 5 [.t 35]),.v 38 36,.g 39 (.mv (.t 3)) 37 false,.g 40 (.scall 6 [.t 38]) 37 false,.o 41 (.pick (.t 37) (.c (.bool true)) (.t 39)),.v 42 40,.g 43 (.mv (.t 4)) 41 false,.g 44 (.len (.t 42)) 41 false,.g 45 (.bin .gtr (.t 43) (.k 2000)) 41 false,.o 46 (.pick (.t 41) (.c (.bool true)) (.t 44)),.v 47 45,.g 48 (.ldn 6 (.t 5)) 46 false,.g 49 (.ldn 5 (.t 7)) 46 false,.g 50 (.scall 7 [.t 47,.t 48]) 46 false,.g 51 (.bin .neq (.t 49) (.k 0)) 46 false,.o 52 (.pick (.t 46) (.c (.bool true)) (.t 50)),.v 53 51,.g 54 (.f 4 7) 52 false,.g 55 (.l 53) 52 false,.g 56 (.len (.t 54)) 52 false,.g 57 (.bin .gtr (.t 55) (.k 0)) 52 false,.o 58 (.pick (.t 52) (.c (.bool true)) (.t 56)),.v 59 57,.g 60 (.mv (.t 11)) 58 false,.g 61 (.un .not (.t 59)) 58 false,.o 62 (.pick (.t 58) (.c (.bool true)) (.t 60))]) (.cond (.t 61) (.seq (.reg [.v 63 11,.v 11 62]) .ret) .skip)) (.seq (.reg [.o 65 (.ldn 6 (.t 5)),.o 66 (.ldn 3 (.t 6)),.o 67 (.f 0 7),.o 68 (.l 66),.o 69 (.scall 8 [.t 64,.t 65,.t 67]),.v 64 68,.o 70 (.ext (.t 63) 0),.o 71 (.ext (.t 63) 1),.v 13 69,.v 14 70]) (.seq (.seq (.reg [.v 72 13,.o 73 (.un .not (.t 71))]) (.cond (.t 72) (.seq (.reg [.v 74 11,.v 11 73]) .ret) .skip)) (.seq (.reg [.o 76 (.f 0 5),.o 77 (.l 75),.o 78 (.f 0 7),.o 79 (.l 77),.o 80 (.f 1 7),.o 81 (.l 79),.o 82 (.f 2 7),.o 83 (.l 81),.o 84 (.build [.w,.w,.w,.z] [(0,1,(.t 76)),(1,1,(.t 78)),(2,1,(.t 80)),(3,1,(.t 82))]),.o 85 (.scall 9 [.t 83]),.v 75 84,.o 86 (.ext (.t 74) 0),.o 87 (.ext (.t 74) 1),.v 15 85,.v 16 86]) (.seq (.reg [.o 89 (.ldn 3 (.t 6)),.v 90 14,.o 91 (.scall 10 [.t 88,.k 0,.t 89]),.v 88 90,.o 92 (.ext (.t 87) 0),.o 93 (.ext (.t 87) 1),.o 0 (.st 3 (.t 6) (.t 91)),.v 17 92]) (.seq (.seq (.reg [.v 94 15,.o 95 (.bin .neq (.t 93) (.k 0)),.v 96 94,.g 97 (.mv (.t 16)) 95 false,.g 98 (.bin .neq (.t 96) (.k 0)) 95 false,.o 99 (.pick (.t 95) (.c (.bool true)) (.t 97))]) (.cond (.t 98) (.seq (.reg [.o 11 (.mv (.c (.bool false)))]) .ret) .skip)) (.seq (.reg [.o 18 (.mv (.c .nils))]) (.seq (.seq (.reg [.o 19 (.mv (.k 0))]) (.block 0 (.loop (.seq (.seq (.reg [.v 100 18,.v 101 3,.o 102 (.len (.t 100)),.o 103 (.bin .lss (.t 99) (.t 101))]) (.cond (.t 102) .skip (.exit 0))) (.seq (.block 1 (.seq (.reg [.o 107 (.ldn 6 (.t 5)),.o 108 (.ldn 5 (.t 7)),.o 109 (.ldn 3 (.t 6)),.v 110 3,.v 111 18,.o 112 (.ixs 6 (.t 109) (.t 110)),.o 113 (.ldn 6 (.t 111)),.v 114 12,.o 20 (.new 31 5 [.w,.w,.z,.z,.nils]),.o 21 (.new 28 3 [.nils,.nils,(.bool false)]),.o 115 (.scall 11 [.t 106,.t 107,.t 108,.t 112,.t 113]),.v 106 114,.o 116 (.ext (.t 105) 0),.o 117 (.ext (.t 105) 1),.o 118 (.ext (.t 105) 2),.o 119 (.ext (.t 105) 3),.o 0 (.st 5 (.t 19) (.t 115)),.o 0 (.st 3 (.t 20) (.t 116)),.v 22 117,.v 23 118]) (.seq (.seq (.reg [.v 120 22,.o 121 (.un .not (.t 119))]) (.cond (.t 120) (.seq (.reg [.o 11 (.mv (.c (.bool false)))]) .ret) .skip)) (.seq (.seq (.reg [.o 122 (.f 1 19),.o 123 (.l 121),.o 124 (.f 1 7),.o 125 (.l 123),.o 126 (.bin .gtr (.t 122) (.t 124))]) (.cond (.t 125) (.reg [.v 127 17,.v 128 3,.v 129 18,.o 130 (.ixs 6 (.t 127) (.t 128)),.o 131 (.f 2 129),.o 132 (.ldn 4 (.t 130)),.o 133 (.bsl 53 4 1 [.z,.nils,.nils,.nils] [(0,4,(.t 131))]),.o 134 (.app 53 4 (.t 126) (.t 132)),.v 18 133]) .skip)) (.reg [.o 135 (.ldn 5 (.t 19)),.o 136 (.ldn 3 (.t 20)),.v 137 21,.o 0 (.st 5 (.t 7) (.t 134)),.chk 135 (.ldn 3 (.t 20)) none,.o 0 (.st 3 (.t 6) (.t 135)),.v 13 136]))))) (.reg [.v 104 18,.o 105 (.bin .add (.t 103) (.k 1)),.v 19 104])))))) (.seq (.reg [.o 139 (.ldn 3 (.t 6)),.o 140 (.bsl 28 3 1 [.nils,.nils,(.bool false)] [(0,3,(.t 138))]),.o 141 (.scall 12 [.t 139]),.v 138 140,.o 142 (.ext (.t 137) 0),.o 143 (.ext (.t 137) 1),.v 24 141,.v 25 142]) (.seq (.reg [.o 145 (.ldn 3 (.t 6)),.o 146 (.bsl 28 3 1 [.nils,.nils,(.bool false)] [(0,3,(.t 144))]),.v 147 4,.v 148 4,.o 149 (.len (.t 147)),.v 150 23,.o 151 (.mn true [.t 149,.k 0]),.o 152 (.mn false [.t 148,.t 150]),.o 153 (.slc 1 (.t 146) none (some (.t 151)) none),.o 154 (.scall 13 [.t 145,.t 152]),.v 144 153,.o 155 (.ext (.t 143) 0),.o 156 (.ext (.t 143) 1),.v 26 154,.v 27 155]) (.seq (.seq (.reg [.v 157 24,.o 158 (.bin .neq (.t 156) (.k 0)),.v 159 157,.g 160 (.mv (.t 26)) 158 false,.g 161 (.bin .neq (.t 159) (.k 0)) 158 false,.o 162 (.pick (.t 158) (.c (.bool true)) (.t 160)),.v 163 161,.g 164 (.mv (.t 25)) 162 false,.g 165 (.len (.t 163)) 162 false,.g 166 (.bin .neq (.t 164) (.k 1)) 162 false,.o 167 (.pick (.t 162) (.c (.bool true)) (.t 165))]) (.cond (.t 166) (.seq (.reg [.o 11 (.mv (.c (.bool false)))]) .ret) .skip)) (.seq (.reg [.o 169 (.ldn 6 (.t 5)),.v 170 25,.o 171 (.ixs 3 (.t 169) (.k 0)),.o 172 (.ldn 3 (.t 170)),.o 28 (.new 45 4 [.w,.w,.w,.z]),.o 173 (.scall 14 [.t 168,.t 171]),.v 168 172,.o 174 (.ext (.t 167) 0),.o 175 (.ext (.t 167) 1),.o 176 (.ext (.t 167) 2),.o 0 (.st 4 (.t 27) (.t 173)),.v 29 174,.v 30 175]) (.seq (.seq (.reg [.v 177 29,.o 178 (.bin .neq (.t 176) (.k 0)),.v 179 177,.g 180 (.f 1 27) 178 false,.g 181 (.l 179) 178 false,.g 182 (.f 0 7) 178 false,.g 183 (.l 181) 178 false,.g 184 (.bin .neq (.t 180) (.t 182)) 178 false,.o 185 (.pick (.t 178) (.c (.bool true)) (.t 183)),.v 186 184,.g 187 (.f 3 27) 185 false,.g 188 (.l 186) 185 false,.g 189 (.f 2 7) 185 false,.g 190 (.l 188) 185 false,.g 191 (.bin .neq (.t 187) (.t 189)) 185 false,.o 192 (.pick (.t 185) (.c (.bool true)) (.t 190))]) (.cond (.t 191) (.seq (.reg [.o 11 (.mv (.c (.bool false)))]) .ret) .skip)) (.seq (.seq (.reg [.v 193 12,.o 194 (.scall 15 [.t 192])]) (.cond (.t 193) (.seq (.reg [.v 195 11,.v 11 194]) .ret) .skip)) (.seq (.reg [.o 31 (.mv (.k 0))]) (.seq (.seq (.reg [.o 32 (.mv (.k 0))]) (.block 2 (.loop (.seq (.seq (.reg [.v 196 31,.o 197 (.f 4 7),.o 198 (.l 196),.o 199 (.len (.t 197)),.o 200 (.bin .lss (.t 195) (.t 198))]) (.cond (.t 199) .skip (.exit 2))) (.seq (.block 3 (.seq (.reg [.o 203 (.f 4 7),.o 204 (.l 202),.v 205 31,.o 206 (.ixs 6 (.t 203) (.t 204)),.o 207 (.f 4 205),.o 208 (.l 206)]) (.cond (.t 207) (.reg [.v 209 30,.o 210 (.bin .add (.t 208) (.k 1)),.v 31 209]) .skip))) (.reg [.v 201 31,.o 202 (.bin .add (.t 200) (.k 1)),.v 32 201])))))) (.seq (.seq (.reg [.v 211 28,.o 212 (.len (.t 210)),.v 213 30,.o 214 (.bin .lss (.t 211) (.t 212)),.v 215 213,.g 216 (.mv (.t 28)) 214 false,.g 217 (.len (.t 215)) 214 false,.g 218 (.f 4 7) 214 false,.g 219 (.l 217) 214 false,.g 220 (.len (.t 218)) 214 false,.g 221 (.bin .gtr (.t 216) (.t 219)) 214 false,.o 222 (.pick (.t 214) (.c (.bool true)) (.t 220)),.v 223 221,.g 224 (.mv (.t 17)) 222 false,.g 225 (.len (.t 223)) 222 false,.g 226 (.f 4 7) 222 false,.g 227 (.l 225) 222 false,.g 228 (.len (.t 226)) 222 false,.g 229 (.bin .lss (.t 224) (.t 227)) 222 false,.o 230 (.pick (.t 222) (.c (.bool true)) (.t 228))]) (.cond (.t 229) (.seq (.reg [.o 11 (.mv (.c (.bool false)))]) .ret) .skip)) (.seq (.reg [.v 231 17,.o 232 (.len (.t 230)),.o 233 (.f 4 7),.o 234 (.l 232),.o 235 (.len (.t 233)),.o 236 (.bin .sub (.t 231) (.t 234)),.v 33 235]) (.seq (.seq (.reg [.o 34 (.mv (.k 0))]) (.block 4 (.loop (.seq (.seq (.reg [.v 237 33,.v 238 28,.o 239 (.len (.t 237)),.o 240 (.bin .lss (.t 236) (.t 238))]) (.cond (.t 239) .skip (.exit 4))) (.seq (.block 5 (.seq (.reg [.v 243 28,.v 244 33,.o 245 (.ixs 6 (.t 242) (.t 243)),.o 246 (.f 1 244),.o 247 (.l 245),.o 248 (.f 4 7),.o 249 (.l 247),.v 250 33,.o 251 (.ixs 6 (.t 248) (.t 249)),.o 252 (.f 0 250),.o 253 (.l 251),.o 254 (.bin .neq (.t 246) (.t 252)),.v 255 253,.g 256 (.mv (.t 28)) 254 false,.g 257 (.mv (.t 33)) 254 false,.g 258 (.ixs 6 (.t 255) (.t 256)) 254 false,.g 259 (.f 0 257) 254 false,.g 260 (.l 258) 254 false,.g 261 (.f 0 7) 254 false,.g 262 (.l 260) 254 false,.g 263 (.bin .neq (.t 259) (.t 261)) 254 false,.o 264 (.pick (.t 254) (.c (.bool true)) (.t 262)),.v 265 263,.g 266 (.mv (.t 28)) 264 false,.g 267 (.mv (.t 33)) 264 false,.g 268 (.ixs 6 (.t 265) (.t 266)) 264 false,.g 269 (.f 2 267) 264 false,.g 270 (.ldn 4 (.t 268)) 264 false,.g 271 (.mv (.t 17)) 264 false,.g 272 (.mv (.t 32)) 264 false,.g 273 (.mv (.t 33)) 264 false,.g 274 (.bin .add (.t 271) (.t 272)) 264 false,.g 275 (.ixs 4 (.t 270) (.t 273)) 264 false,.g 276 (.ldn 4 (.t 274)) 264 false,.g 277 (.scall 16 [.t 269,.t 275]) 264 false,.g 278 (.un .not (.t 276)) 264 false,.o 279 (.pick (.t 264) (.c (.bool true)) (.t 277))]) (.cond (.t 278) (.seq (.reg [.o 11 (.mv (.c (.bool false)))]) .ret) .skip))) (.reg [.v 241 33,.o 242 (.bin .add (.t 240) (.k 1)),.v 34 241])))))) (.seq (.reg [.v 280 11,.v 11 279]) .ret)))))))))))))))))))))),[.tmp 10]⟩
theorem g3:GK 3 Tryz.f3 a3:=⟨by kernel_rfl,Tryz.func3,by kernel_rfl⟩
def q5:FA Tryz.f5:=⟨_,by conv=>lhs;cbv⟩
def a5:=q5.1
theorem g5:GK 5 Tryz.f5 a5:={ c:=q5.2,f:=Tryz.func5 }
def q6:FA Tryz.f6:=⟨_,by conv=>lhs;cbv⟩
def a6:=q6.1
theorem g6:GK 6 Tryz.f6 a6:={ c:=q6.2,f:=Tryz.func6 }
def q7:FA Tryz.f7:=⟨_,by conv=>lhs;cbv⟩
def a7:=q7.1
theorem g7:GK 7 Tryz.f7 a7:={ c:=q7.2,f:=Tryz.func7 }
def q8:FA Tryz.f8:=⟨_,by conv=>lhs;cbv⟩
def a8:=q8.1
theorem g8:GK 8 Tryz.f8 a8:={ c:=q8.2,f:=Tryz.func8 }
def q11:FA Tryz.f11:=⟨_,by conv=>lhs;cbv⟩
def a11:=q11.1
theorem g11:GK 11 Tryz.f11 a11:={ c:=q11.2,f:=Tryz.func11 }
def q12:FA Tryz.f12:=⟨_,by conv=>lhs;cbv⟩
def a12:=q12.1
theorem g12:GK 12 Tryz.f12 a12:={ c:=q12.2,f:=Tryz.func12 }
def q13:FA Tryz.f13:=⟨_,by conv=>lhs;cbv⟩
def a13:=q13.1
theorem g13:GK 13 Tryz.f13 a13:={ c:=q13.2,f:=Tryz.func13 }
def q15:FA Tryz.f15:=⟨_,by conv=>lhs;cbv⟩
def a15:=q15.1
theorem g15:GK 15 Tryz.f15 a15:={ c:=q15.2,f:=Tryz.func15 }
def q21:FA Tryz.f21:=⟨_,by conv=>lhs;cbv⟩
def a21:=q21.1
theorem g21:GK 21 Tryz.f21 a21:={ c:=q21.2,f:=Tryz.func21 }
def a23:AFn:=⟨(.seq (.reg [.o 3 (.mv (.c (.bool false)))]) (.seq (.reg [.v 13 0,.o 14 (.nilck (.t 12)),.o 15 (.f 5 13),.o 16 (.ldn 6 (.t 14)),.o 17 (.scall 51 [.t 15]),.v 12 16,.o 18 (.ext (.t 11) 0),.o 19 (.ext (.t 11) 1),.v 4 17,.v 5 18]) (.seq (.reg [.v 21 0,.o 22 (.nilck (.t 20)),.o 23 (.f 5 21),.o 24 (.ldn 6 (.t 22)),.o 25 (.scall 52 [.t 23]),.v 20 24,.o 26 (.ext (.t 19) 0),.o 27 (.ext (.t 19) 1),.v 6 25,.v 7 26]) (.seq (.seq (.reg [.v 28 0,.o 29 (.nilck (.t 27)),.o 30 (.f 0 28),.o 31 (.f 0 29),.o 32 (.l 30),.o 33 (.scall 53 [.t 31]),.o 34 (.un .not (.t 32)),.v 35 33,.g 36 (.mv (.t 0)) 34 false,.g 37 (.nilck (.t 35)) 34 false,.g 38 (.f 0 36) 34 false,.g 39 (.f 1 37) 34 false,.g 40 (.l 38) 34 false,.g 41 (.scall 53 [.t 39]) 34 false,.g 42 (.un .not (.t 40)) 34 false,.o 43 (.pick (.t 34) (.c (.bool true)) (.t 41)),.v 44 42,.g 45 (.mv (.t 0)) 43 false,.g 46 (.nilck (.t 44)) 43 false,.g 47 (.f 0 45) 43 false,.g 48 (.f 2 46) 43 false,.g 49 (.l 47) 43 false,.g 50 (.bin .lss (.t 48) (.k 0)) 43 false,.o 51 (.pick (.t 43) (.c (.bool true)) (.t 49)),.v 52 50,.g 53 (.mv (.t 0)) 51 false,.g 54 (.nilck (.t 52)) 51 false,.g 55 (.f 0 53) 51 false,.g 56 (.f 2 54) 51 false,.g 57 (.l 55) 51 false,.g 58 (.mv (.t 0)) 51 false,.g 59 (.nilck (.t 57)) 51 false,.g 60 (.f 5 58) 51 false,.g 61 (.f 4 59) 51 false,.g 62 (.l 60) 51 false,.g 63 (.bin .geq (.t 56) (.t 61)) 51 false,.o 64 (.pick (.t 51) (.c (.bool true)) (.t 62)),.v 65 63,.g 66 (.mv (.t 0)) 64 false,.g 67 (.nilck (.t 65)) 64 false,.g 68 (.f 0 66) 64 false,.g 69 (.f 4 67) 64 false,.g 70 (.l 68) 64 false,.g 71 (.len (.t 69)) 64 false,.g 72 (.mv (.t 0)) 64 false,.g 73 (.nilck (.t 71)) 64 false,.g 74 (.f 5 72) 64 false,.g 75 (.f 4 73) 64 false,.g 76 (.l 74) 64 false,.g 77 (.bin .gtr (.t 70) (.t 75)) 64 false,.o 78 (.pick (.t 64) (.c (.bool true)) (.t 76)),.v 79 77,.g 80 (.mv (.t 0)) 78 false,.g 81 (.nilck (.t 79)) 78 false,.g 82 (.f 0 80) 78 false,.g 83 (.f 3 81) 78 false,.g 84 (.l 82) 78 false,.g 85 (.mv (.t 0)) 78 false,.g 86 (.nilck (.t 84)) 78 false,.g 87 (.f 5 85) 78 false,.g 88 (.f 4 86) 78 false,.g 89 (.l 87) 78 false,.g 90 (.bin .gtr (.t 83) (.t 88)) 78 false,.o 91 (.pick (.t 78) (.c (.bool true)) (.t 89))]) (.cond (.t 90) (.seq (.reg [.o 3 (.mv (.c (.bool false)))]) .ret) .skip)) (.seq (.reg [.o 8 (.mv (.k 0)),.o 9 (.mv (.c (.bool true)))]) (.seq (.seq (.reg [.v 92 0,.o 93 (.nilck (.t 91)),.o 94 (.f 0 92),.o 95 (.f 4 93),.o 96 (.l 94),.o 97 (.len (.t 95)),.o 98 (.mv (.k 0))]) (.block 0 (.loop (.seq (.reg [.o 99 (.bin .lss (.t 97) (.t 96))]) (.seq (.cond (.t 98) .skip (.exit 0)) (.seq (.block 1 (.seq (.reg [.v 100 97,.o 101 (.ixs 6 (.t 95) (.t 97)),.o 102 (.ldn 6 (.t 100)),.o 11 (.new 66 6 [.w,.z,.z,(.bool false),(.bool false),(.bool false)]),.v 10 99,.o 0 (.st 6 (.t 10) (.t 101))]) (.seq (.seq (.reg [.o 103 (.f 1 10),.o 104 (.l 102),.o 105 (.bin .lss (.t 103) (.k 0)),.v 106 104,.g 107 (.f 1 10) 105 false,.g 108 (.l 106) 105 false,.g 109 (.mv (.t 3)) 105 false,.g 110 (.bin .geq (.t 107) (.t 108)) 105 false,.o 111 (.pick (.t 105) (.c (.bool true)) (.t 109)),.v 112 110,.g 113 (.f 2 10) 111 false,.g 114 (.l 112) 111 false,.g 115 (.bin .lss (.t 113) (.k 2)) 111 false,.o 116 (.pick (.t 111) (.c (.bool true)) (.t 114)),.v 117 115,.g 118 (.f 2 10) 116 false,.g 119 (.l 117) 116 false,.g 120 (.mv (.t 5)) 116 false,.g 121 (.bin .gtr (.t 118) (.t 119)) 116 false,.o 122 (.pick (.t 116) (.c (.bool true)) (.t 120)),.v 123 121,.g 124 (.f 0 10) 122 false,.g 125 (.l 123) 122 false,.g 126 (.bin .eql (.t 124) (.c .w)) 122 false,.o 127 (.pick (.t 122) (.c (.bool true)) (.t 125)),.v 128 126,.g 129 (.f 0 10) 127 false,.g 130 (.l 128) 127 false,.g 131 (.mv (.t 0)) 127 false,.g 132 (.nilck (.t 130)) 127 false,.g 133 (.f 0 131) 127 false,.g 134 (.f 1 132) 127 false,.g 135 (.l 133) 127 false,.g 136 (.mv (.t 0)) 127 false,.g 137 (.nilck (.t 135)) 127 false,.g 138 (.f 0 136) 127 false,.g 139 (.f 4 137) 127 false,.g 140 (.l 138) 127 false,.g 141 (.len (.t 139)) 127 false,.g 142 (.mv (.t 9)) 127 false,.g 143 (.bin .sub (.t 140) (.t 141)) 127 false,.g 144 (.cvi .u32 (.t 142)) 127 false,.g 145 (.bin .sub (.t 134) (.t 143)) 127 false,.g 146 (.bin .neq (.t 129) (.t 144)) 127 false,.o 147 (.pick (.t 127) (.c (.bool true)) (.t 145)),.v 148 146,.g 149 (.f 4 10) 147 false,.g 150 (.l 148) 147 false,.g 151 (.mv (.t 149)) 147 false,.g 152 (.mv (.t 8)) 150 true,.g 153 (.un .not (.t 151)) 150 true,.g 154 (.pick (.t 150) (.t 152) (.c (.bool false))) 147 false,.o 155 (.pick (.t 147) (.c (.bool true)) (.t 153))]) (.cond (.t 154) (.seq (.reg [.o 3 (.mv (.c (.bool false)))]) .ret) .skip)) (.seq (.reg [.v 156 7,.o 157 (.f 2 10),.o 158 (.l 156),.o 159 (.bin .add (.t 155) (.t 157)),.v 8 158]) (.reg [.o 160 (.f 4 10),.o 161 (.l 159),.v 9 160]))))) (.reg [.o 162 (.bin .add (.t 97) (.k 1)),.v 98 161]))))))) (.seq (.reg [.v 163 7,.v 164 0,.o 165 (.nilck (.t 163)),.o 166 (.f 0 164),.o 167 (.f 3 165),.o 168 (.l 166),.o 169 (.bin .eql (.t 162) (.t 167)),.v 170 168,.g 171 (.mv (.t 0)) 169 true,.g 172 (.nilck (.t 170)) 169 true,.g 173 (.f 0 171) 169 true,.g 174 (.f 1 172) 169 true,.g 175 (.l 173) 169 true,.g 176 (.cvi .i64 (.t 174)) 169 true,.g 177 (.mv (.t 0)) 169 true,.g 178 (.nilck (.t 176)) 169 true,.g 179 (.f 0 177) 169 true,.g 180 (.f 4 178) 169 true,.g 181 (.l 179) 169 true,.g 182 (.len (.t 180)) 169 true,.g 183 (.bin .gtr (.t 175) (.t 181)) 169 true,.o 184 (.pick (.t 169) (.t 182) (.c (.bool false))),.v 185 183,.g 186 (.mv (.t 0)) 184 true,.g 187 (.scall 54 [.t 185]) 184 true,.o 188 (.pick (.t 184) (.t 186) (.c (.bool false))),.v 189 187,.g 190 (.mv (.t 0)) 188 true,.g 191 (.scall 55 [.t 189]) 188 true,.o 192 (.pick (.t 188) (.t 190) (.c (.bool false))),.v 3 191]) .ret))))))),[.tmp 2]⟩
theorem g23:GK 23 Tryz.f23 a23:=⟨by kernel_rfl,Tryz.func23,by kernel_rfl⟩
def q35:FA Tryz.f35:=⟨_,by conv=>lhs;cbv⟩
def a35:=q35.1
theorem g35:GK 35 Tryz.f35 a35:={ c:=q35.2,f:=Tryz.func35 }
def q36:FA Tryz.f36:=⟨_,by conv=>lhs;cbv⟩
def a36:=q36.1
theorem g36:GK 36 Tryz.f36 a36:={ c:=q36.2,f:=Tryz.func36 }
def q37:FA Tryz.f37:=⟨_,by conv=>lhs;cbv⟩
def a37:=q37.1
theorem g37:GK 37 Tryz.f37 a37:={ c:=q37.2,f:=Tryz.func37 }
def q38:FA Tryz.f38:=⟨_,by conv=>lhs;cbv⟩
def a38:=q38.1
theorem g38:GK 38 Tryz.f38 a38:={ c:=q38.2,f:=Tryz.func38 }
def q39:FA Tryz.f39:=⟨_,by conv=>lhs;cbv⟩
def a39:=q39.1
theorem g39:GK 39 Tryz.f39 a39:={ c:=q39.2,f:=Tryz.func39 }
def q41:FA Tryz.f41:=⟨_,by conv=>lhs;cbv⟩
def a41:=q41.1
theorem g41:GK 41 Tryz.f41 a41:={ c:=q41.2,f:=Tryz.func41 }
def q42:FA Tryz.f42:=⟨_,by conv=>lhs;cbv⟩
def a42:=q42.1
theorem g42:GK 42 Tryz.f42 a42:={ c:=q42.2,f:=Tryz.func42 }
def q46:FA Tryz.f46:=⟨_,by conv=>lhs;cbv⟩
def a46:=q46.1
theorem g46:GK 46 Tryz.f46 a46:={ c:=q46.2,f:=Tryz.func46 }
def q52:FA Tryz.f52:=⟨_,by conv=>lhs;cbv⟩
def Nj:=q52.1
theorem g52:GK 52 Tryz.f52 Nj:={ c:=q52.2,f:=Tryz.func52 }
def q53:FA Tryz.f53:=⟨_,by conv=>lhs;cbv⟩
def a53:=q53.1
theorem g53:GK 53 Tryz.f53 a53:={ c:=q53.2,f:=Tryz.func53 }
def q54:FA Tryz.f54:=⟨_,by conv=>lhs;cbv⟩
def a54:=q54.1
theorem g54:GK 54 Tryz.f54 a54:={ c:=q54.2,f:=Tryz.func54 }
def q55:FA Tryz.f55:=⟨_,by conv=>lhs;cbv⟩
def a55:=q55.1
theorem g55:GK 55 Tryz.f55 a55:={ c:=q55.2,f:=Tryz.func55 }
def q72:FA Tryz.f72:=⟨_,by conv=>lhs;cbv⟩
def a72:=q72.1
theorem g72:GK 72 Tryz.f72 a72:={ c:=q72.2,f:=Tryz.func72 }
def q75:FA Tryz.f75:=⟨_,by conv=>lhs;cbv⟩
def a75:=q75.1
theorem g75:GK 75 Tryz.f75 a75:={ c:=q75.2,f:=Tryz.func75 }
def q76:FA Tryz.f76:=⟨_,by conv=>lhs;cbv⟩
def a76:=q76.1
theorem g76:GK 76 Tryz.f76 a76:={ c:=q76.2,f:=Tryz.func76 }
def q77:FA Tryz.f77:=⟨_,by conv=>lhs;cbv⟩
def a77:=q77.1
theorem g77:GK 77 Tryz.f77 a77:={ c:=q77.2,f:=Tryz.func77 }
def q83:FA Tryz.f83:=⟨_,by conv=>lhs;cbv⟩
def a83:=q83.1
theorem g83:GK 83 Tryz.f83 a83:={ c:=q83.2,f:=Tryz.func83 }
def q87:FA Tryz.f87:=⟨_,by conv=>lhs;cbv⟩
def a87:=q87.1
theorem g87:GK 87 Tryz.f87 a87:={ c:=q87.2,f:=Tryz.func87 }
def q88:FA Tryz.f88:=⟨_,by conv=>lhs;cbv⟩
def a88:=q88.1
theorem g88:GK 88 Tryz.f88 a88:={ c:=q88.2,f:=Tryz.func88 }
def q96:FA Tryz.f96:=⟨_,by conv=>lhs;cbv⟩
def a96:=q96.1
theorem g96:GK 96 Tryz.f96 a96:={ c:=q96.2,f:=Tryz.func96 }
def q100:FA Tryz.f100:=⟨_,by conv=>lhs;cbv⟩
def PC:=q100.1
theorem g100:GK 100 Tryz.f100 PC:={ c:=q100.2,f:=Tryz.func100 }
def q105:FA Tryz.f105:=⟨_,by conv=>lhs;cbv⟩
def P7:=q105.1
theorem g105:GK 105 Tryz.f105 P7:={ c:=q105.2,f:=Tryz.func105 }
def q108:FA Tryz.f108:=⟨_,by conv=>lhs;cbv⟩
def S5:=q108.1
theorem g108:GK 108 Tryz.f108 S5:={ c:=q108.2,f:=Tryz.func108 }
end X
end
end Go.AM
