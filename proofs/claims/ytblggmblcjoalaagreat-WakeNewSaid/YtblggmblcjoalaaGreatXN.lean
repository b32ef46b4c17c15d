/- Contracts of functions over the abstract machine. No conditions. -/
import Derived.Test.YtblggmblcjoalaaGreatChecked
import Derived.KernelRfl
import Derived.Test.YtblggmblcjoalaaGreatAM5
set_option maxRecDepth 100000
namespace Go.AM
noncomputable section
open Go.Proofs
abbrev P:Program:=Tryz.prog
theorem mixed:P.follows .mixedOrders=true:=by kernel_rfl
abbrev FA (f:Func):={x:AFn // compF P f=some x}
structure GK (f:Nat) (fn:Func) (a:AFn):Prop where
 c:compF P fn=some a
 f:P.funcs[f]?=some fn
 n : (fn.name == "runtime.NumGoroutine") = false := by kernel_rfl
theorem GK.g {f:Nat}{fn:Func}{a:AFn}(g:GK f fn a):GOk P (f,a):=⟨fn,g.f,g.c,g.n⟩
theorem GK.b {f:Nat}{fn:Func}{a:AFn}(g:GK f fn a):HasBody P f:=by
 have:=g.c
 unfold compF at this
 split at this
 ·exact ⟨fn,_,g.f,by assumption,g.n⟩
 ·cases this
theorem C.of_G {e:Env}{f:Nat}{fn:Func}{code:AC}{res:List ARes}{args:List AV}{Q:AV->St->Prop}(hE:EM P e) (g:GK f fn (.mk code res)) (h:VW P e 0 code (initT args 0 .lf) St0 none [] (EEnd res Q)):C P f args St0 Q:=C.of_V hE g.f g.c h
theorem C1.of_G {e:Env}{f:Nat}{fn:Func}{code:AC}{res:List ARes}{args:List AV}{s:St}{Q:AV->St->Prop}(hE:EM P e) (g:GK f fn (.mk code res)) (h:VW P e s.next code (initT args 0 .lf) s none [] (EEnd res Q)):C1 P f args s Q:=C1.of_V hE g.f g.c h
theorem Inl.k {e:Env}{f:Nat}{code:AC}{res:List ARes}(h:e.X.get f=none:=by rfl) (h1:e.O.get f=none:=by rfl) (h2:e.G.get f=some (.mk code res):=by kernel_rfl):Inl e f code res:=⟨h,h1,h2⟩
theorem Con.k {e:Env}{f:Nat}{o:Ov}(h:e.X.get f=none:=by rfl) (h1:e.O.get f=some o:=by rfl):Con e f o:=⟨h,h1⟩
end
end Go.AM
