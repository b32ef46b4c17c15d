/-
 Functions of the program as the abstract machine reads them, and what is stated of them, checked by the kernel. No conditions.
-/
import Derived.Test.YtnnbibnobmegpaaSeatL
set_option linter.unusedVariables false
set_option linter.unusedSimpArgs false
set_option maxRecDepth 100000
namespace Go.AM
attribute [local irreducible] W
open X
def Yc9:AC:=match a126 with|.mk c _=>c
def code82:AC:=match a82 with|.mk c _=>c
def Yip (r a:Int):Bool:=decide (1≤r∧r≤255∧0≤a∧a<r)
theorem Yca (e:Env) (s:St) (r a:Int) (K:AV→St→Prop) (h:K (.bool (Yip r a)) s):VE e Yc9 (Zax [.int .i64 r,.int .i64 a] 0 .lf) s none [] (Zfa [.tmp 4] K):=by
 unfold Yip at h
 conv=>whnf
 repeat' (first|((first|refine w1 rfl rfl ?_ ?_|refine w2 rfl rfl ?_ ?_|refine w4 rfl rfl ?_ ?_) <;> intro _ <;> first|(exfalso;omega)|(conv=>whnf))|fail)
 all_goals first
  | (rw [decide_eq_true (by omega)] at h;exact h)
  | (rw [decide_eq_false (by omega)] at h;exact h)
structure I3 where
 a:Int
 b:Int
 c:Int
def I3.ok (x:I3):Prop:=Zc4 x.a∧Zc4 x.b∧Zc4 x.c
def I3.args (x:I3):List AV:=[.int .i64 x.a,.int .i64 x.b,.int .i64 x.c]
theorem I3.inja {x y:I3}(h:x.args=y.args):x=y:=by
 obtain ⟨a,b,c⟩:=x
 obtain ⟨a',b',c'⟩:=y
 simp [I3.args] at h
 obtain ⟨rfl,rfl,rfl⟩:=h;rfl
def Yen (x:I3):Bool:=decide (0≤x.c) && Yip x.a x.b && Yip x.a (max (x.c-1) 0)
def onF:Fam I3:=⟨I3.ok,I3.args,fun x=>if Yen x then .tup [.int .i64 ((x.b+x.c) % x.a),.int .i64 0] else .tup [.int .i64 0,.int .i64 2],fun x y _ _ h=>by rw [I3.inja h]⟩
theorem onF_ok {P:Program}{e:Env}{fn:Func}(hE:EnvOk P e) (hm:P.follows .mixedOrders=true) (h82:Inl e 82 code82 [.tmp 8,.tmp 9]) (h126:Inl e 126 Yc9 [.tmp 4]) (hf:P.funcs[35]?=some fn) (hc:Zaj P fn=some a35) (hb:Zaf P 35):OvOk P 35 onF.O:=by
 refine Zal hb ?_
 rintro ⟨a,b,c⟩ ⟨h1,h2,h3⟩
 unfold Zc4 at h1 h2 h3
 dsimp only at h1 h2 h3
 refine ⟨rfl,by unfold onF;dsimp only;split <;> rfl,C.of_V hE hm hf hc ?_⟩
 have no:Yen ⟨a,b,c⟩=false→onF.out ⟨a,b,c⟩=.tup [.int .i64 0,.int .i64 2]:=fun h=>by simp [onF,h]
 have yes:Yen ⟨a,b,c⟩=true→onF.out ⟨a,b,c⟩=.tup [.int .i64 ((b+c) % a),.int .i64 0]:=fun h=>by simp [onF,h]
 unfold Yen at no yes
 dsimp only at no yes
 show VW P e 0 (match a35 with|.mk c _=>c) (Zax [.int .i64 a,.int .i64 b,.int .i64 c] 0 .lf) St0 none [] _
 conv=>whnf
 refine ESc.inl h82 ?_;conv=>whnf
 by_cases hc0:c<0
 ·rw [no (by rw [decide_eq_false (by omega)];rfl)]
  repeat' (first|(refine EPrim.sub (q:=.i64) rfl rfl ?_;conv=>whnf)|(refine EPrim.max2 rfl ?_;conv=>whnf)|((first|refine w1 rfl rfl ?_ ?_|refine w5 rfl rfl ?_ ?_) <;> intro _ <;> first|(exfalso;omega)|(conv=>whnf))|fail)
  exact .plain _ rfl
 ·repeat' (first|(refine EPrim.max2 rfl ?_;conv=>whnf)|((first|refine w1 rfl rfl ?_ ?_|refine w5 rfl rfl ?_ ?_) <;> intro _ <;> first|(exfalso;omega)|(conv=>whnf))|(refine w8 rfl rfl (by omega) ?_;conv=>whnf)|fail)
  refine ESc.inl h126 (Yca e _ a b _ ?_)
  cases hA:Yip a b
  ·conv=>whnf
   repeat' (first|(refine w13 rfl ?_;conv=>whnf)|fail)
   rw [no (by rw [hA];simp)]
   exact .plain _ rfl
  ·conv=>whnf
   repeat' (first|(refine w12 rfl ?_;conv=>whnf)|fail)
   refine ESc.inl h126 (Yca e _ a (max (c-1) 0) _ ?_)
   cases hB:Yip a (max (c-1) 0)
   ·conv=>whnf
    repeat' (first|(refine w13 rfl ?_;conv=>whnf)|fail)
    rw [no (by rw [hB];simp)]
    exact .plain _ rfl
   ·have e1:=of_decide_eq_true hA
    have e2:=of_decide_eq_true hB
    conv=>whnf
    repeat' (first|(refine Zdk rfl rfl (by omega) ?_;conv=>whnf)|((refine w5 rfl rfl ?_ ?_) <;> intro _ <;> first|(exfalso;omega)|(conv=>whnf))|((first|refine w7 rfl rfl (by omega) ?_|refine w12 rfl ?_);conv=>whnf)|fail)
    rw [yes (by rw [hA,hB,decide_eq_true (by omega)];rfl)]
    exact .plain _ rfl
end Go.AM
