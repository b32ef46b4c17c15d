/-
 Functions of the program as the abstract machine reads them, and what is stated of them, checked by the kernel. No conditions.
-/
import Derived.Test.YtnnbibnobmegpaaSeatS
set_option linter.unusedVariables false
set_option linter.unusedSimpArgs false
set_option maxRecDepth 100000
namespace Go.AM
attribute [local irreducible] W
open X
structure Cfg where
 id:Int
 members:Int
 chunk:Int
 rows:Int
 log:Int
 heads:Int
def Zc4 (n:Int):Prop:=-9223372036854775808≤n∧n≤9223372036854775807
def Zgi (n:Int):Prop:=0≤n∧n<4294967296
structure Cfg.ok (c:Cfg):Prop where
 id:Zgi c.id
 members:Zc4 c.members
 chunk:Zc4 c.chunk
 rows:Zc4 c.rows
 log:Zc4 c.log
 heads:Zc4 c.heads
def Cfg.c (x:Cfg):List AV:=[.int .u32 x.id,.int .i64 x.members,.int .i64 x.chunk,.int .i64 x.rows,.int .i64 x.log,.int .i64 x.heads]
def Cfg.v (x:Cfg):AV:=.agg x.c
theorem Cfg.inj {x y:Cfg}(h:x.c=y.c):x=y:=by
 obtain ⟨a,b,c,d,e,f⟩:=x
 obtain ⟨a',b',c',d',e',f'⟩:=y
 simp [Cfg.c] at h
 obtain ⟨rfl,rfl,rfl,rfl,rfl,rfl⟩:=h;rfl
theorem Zem {x y:Cfg}(h:x.v=y.v):x=y:=Cfg.inj (AV.agg.inj h)
def Cfg.may (x:Cfg):Prop:=(3≤x.members∧x.members≤16)∧(1≤x.chunk∧x.chunk≤8)∧(1≤x.rows∧x.rows≤8)∧(2≤x.heads∧x.heads≤8)∧(x.members+1)*(x.heads+1)≤x.log∧x.log≤255
instance (x:Cfg):Decidable x.may:=by unfold Cfg.may;infer_instance
theorem Zdc {x:Cfg}(h:x.may):12≤x.log:=by
 unfold Cfg.may at h
 have:(4:Int)*3≤(x.members+1)*(x.heads+1):=Int.mul_le_mul (by omega) (by omega) (by decide) (by omega)
 omega
def cfgF:Fam Cfg:=⟨Cfg.ok,fun x=>[x.v],fun x=>.int .i64 (if x.may then 0 else 8),fun x y _ _ h=>by rw [Zem (List.cons.inj h).1]⟩
def code121:AC:=match a121 with|.mk c _=>c
theorem Zh1 {a b:Int}(ha:0≤a∧a≤100000) (hb:0≤b∧b≤100000):-9223372036854775808≤a*b∧a*b≤9223372036854775807:=by
 have h1:0≤a*b:=Int.mul_nonneg ha.1 hb.1
 have h2:a*b≤100000*100000:=Int.mul_le_mul ha.2 hb.2 hb.1 (by decide)
 omega
theorem cfgF_ok {P:Program}{e:Env}{fn:Func}(hE:EnvOk P e) (hm:P.follows .mixedOrders=true) (h121:Inl e 121 code121 [.tmp 2]) (hf:P.funcs[78]?=some fn) (hc:Zaj P fn=some a78) (hb:Zaf P 78):OvOk P 78 cfgF.O:=by
 refine Zal hb ?_
 rintro ⟨id,members,chunk,rows,log,heads⟩ ⟨h1,h2,h3,h4,h5,h6⟩
 unfold Zc4 at h2 h3 h4 h5 h6
 dsimp only at h2 h3 h4 h5 h6
 refine ⟨rfl,rfl,C.of_V hE hm hf hc ?_⟩
 have fin0:∀ s,((3≤members∧members≤16)∧(1≤chunk∧chunk≤8)∧(1≤rows∧rows≤8)∧(2≤heads∧heads≤8)∧(members+1)*(heads+1)≤log∧log≤255)→Frz s (.int .i64 0) (cfgF.out ⟨id,members,chunk,rows,log,heads⟩):=by
  intro s h
  show Frz s _ (.int .i64 (if Cfg.may ⟨id,members,chunk,rows,log,heads⟩ then 0 else 8))
  rw [if_pos (show Cfg.may ⟨id,members,chunk,rows,log,heads⟩ from h)];exact .plain _ rfl
 have fin8:∀ s,¬ ((3≤members∧members≤16)∧(1≤chunk∧chunk≤8)∧(1≤rows∧rows≤8)∧(2≤heads∧heads≤8)∧(members+1)*(heads+1)≤log∧log≤255)→Frz s (.int .i64 8) (cfgF.out ⟨id,members,chunk,rows,log,heads⟩):=by
  intro s h
  show Frz s _ (.int .i64 (if Cfg.may ⟨id,members,chunk,rows,log,heads⟩ then 0 else 8))
  rw [if_neg (show ¬ Cfg.may ⟨id,members,chunk,rows,log,heads⟩ from h)];exact .plain _ rfl
 show VW P e 0 (match a78 with|.mk c _=>c) (Zax [AV.agg [.int .u32 id,.int .i64 members,.int .i64 chunk,.int .i64 rows,.int .i64 log,.int .i64 heads]] 0 .lf) St0 none [] _
 conv=>whnf
 repeat' (first|(refine ESc.inl h121 ?_;conv=>whnf)|(refine EExec.loop ?_;conv=>whnf)|(refine Za0 rfl rfl (by omega) (by omega) ?_;conv=>whnf)|(refine Zze rfl rfl (by omega) (by omega) ?_;conv=>whnf)|(refine Za2 rfl rfl (Zh1 (by omega) (by omega)) ?_;conv=>whnf)|((first|refine w1 rfl rfl ?_ ?_|refine w3 rfl rfl ?_ ?_) <;> intro _ <;> first|(exfalso;omega)|(conv=>whnf))|((first|refine w7 rfl rfl (by omega) ?_|refine w12 rfl ?_|refine w13 rfl ?_|refine w18 rfl ?_);conv=>whnf)|fail)
 all_goals first
  | exact fin8 _ (by omega)
  | exact fin0 _ (by omega)
def toldF:Fam (Cfg×Int):=⟨fun x=>x.1.ok,fun x=>[x.1.v,.int .i64 x.2],fun x=>.tup [.int .i64 (if x.1.may then x.2 else 0),.int .i64 (if x.1.may then 0 else 8)],fun x y _ _ h=>by
 obtain ⟨c,n⟩:=x
 obtain ⟨c',n'⟩:=y
 have h1:=Zem (List.cons.inj h).1
 have h2:=(AV.int.inj (List.cons.inj (List.cons.inj h).2).1).2
 dsimp only at h1 h2
 subst h1 h2;rfl⟩
theorem Yey {P:Program}{e:Env}{fn:Func}(hE:EnvOk P e) (hm:P.follows .mixedOrders=true) (h78:Con e 78 cfgF.O) (hf:P.funcs[83]?=some fn) (hc:Zaj P fn=some a83) (hb:Zaf P 83):OvOk P 83 toldF.O:=by
 refine Zal hb ?_
 rintro ⟨x,n⟩ hx
 refine ⟨rfl,rfl,C.of_V hE hm hf hc ?_⟩
 by_cases hM:x.may
 ·rw [show toldF.out (x,n)=.tup [.int .i64 n,.int .i64 0] by simp [toldF,hM]]
  show VW P e 0 (match a83 with|.mk c _=>c) (Zax [x.v,.int .i64 n] 0 .lf) St0 none [] _
  conv=>whnf
  refine ESc.fam cfgF h78 x hx (u:=.int .i64 0) (by simp [cfgF,hM]) ?_;conv=>whnf
  repeat' (first|((refine w6 rfl rfl ?_ ?_) <;> intro _ <;> first|(exfalso;omega)|(conv=>whnf))|fail)
  exact .plain _ rfl
 ·rw [show toldF.out (x,n)=.tup [.int .i64 0,.int .i64 8] by simp [toldF,hM]]
  show VW P e 0 (match a83 with|.mk c _=>c) (Zax [x.v,.int .i64 n] 0 .lf) St0 none [] _
  conv=>whnf
  refine ESc.fam cfgF h78 x hx (u:=.int .i64 8) (by simp [cfgF,hM]) ?_;conv=>whnf
  repeat' (first|((refine w6 rfl rfl ?_ ?_) <;> intro _ <;> first|(exfalso;omega)|(conv=>whnf))|fail)
  exact .plain _ rfl
def stripesF:Fam Cfg:=⟨Cfg.ok,fun x=>[x.v],fun x=>.tup [.int .i64 (if x.may then x.chunk*x.rows else 0),.int .i64 (if x.may then 0 else 8)],fun x y _ _ h=>by rw [Zem (List.cons.inj h).1]⟩
theorem Ztv {P:Program}{e:Env}{fn:Func}(hE:EnvOk P e) (hm:P.follows .mixedOrders=true) (h83:Con e 83 toldF.O) (hf:P.funcs[38]?=some fn) (hc:Zaj P fn=some a38) (hb:Zaf P 38):OvOk P 38 stripesF.O:=by
 refine Zal hb ?_
 intro x hx
 refine ⟨rfl,rfl,C.of_V hE hm hf hc ?_⟩
 by_cases hM:x.may
 ·rw [show stripesF.out x=.tup [.int .i64 (x.chunk*x.rows),.int .i64 0] by simp [stripesF,hM]]
  have hM':=hM
  unfold Cfg.may at hM'
  have hl:=Zdc hM
  obtain ⟨id,members,chunk,rows,log,heads⟩:=x
  dsimp only at hM' hl ⊢
  show VW P e 0 (match a38 with|.mk c _=>c) (Zax [AV.agg [.int .u32 id,.int .i64 members,.int .i64 chunk,.int .i64 rows,.int .i64 log,.int .i64 heads]] 0 .lf) St0 none [] _
  conv=>whnf
  repeat' (first|(refine Za2 rfl rfl (Zh1 (by omega) (by omega)) ?_;conv=>whnf)|fail)
  refine ESc.fam toldF h83 (⟨id,members,chunk,rows,log,heads⟩,_) hx (u:=.tup [_,.int .i64 0]) (by simp only [toldF,if_pos hM];rfl) ?_;conv=>whnf
  exact .plain _ rfl
 ·rw [show stripesF.out x=.tup [.int .i64 0,.int .i64 8] by simp [stripesF,hM]]
  obtain ⟨id,members,chunk,rows,log,heads⟩:=x
  show VW P e 0 (match a38 with|.mk c _=>c) (Zax [AV.agg [.int .u32 id,.int .i64 members,.int .i64 chunk,.int .i64 rows,.int .i64 log,.int .i64 heads]] 0 .lf) St0 none [] _
  conv=>whnf
  repeat' (first|(refine EPrim.mul rfl rfl ?_;conv=>whnf)|(refine EPrim.add (q:=.i64) rfl rfl ?_;conv=>whnf)|fail)
  refine ESc.fam toldF h83 (⟨id,members,chunk,rows,log,heads⟩,_) hx (u:=.tup [.int .i64 0,.int .i64 8]) (by simp only [toldF,if_neg hM]) ?_;conv=>whnf
  exact .plain _ rfl
def journalF:Fam Cfg:=⟨Cfg.ok,fun x=>[x.v],fun x=>.tup [.int .i64 (if x.may then x.log+1 else 0),.int .i64 (if x.may then 0 else 8)],fun x y _ _ h=>by rw [Zem (List.cons.inj h).1]⟩
theorem Zuo {P:Program}{e:Env}{fn:Func}(hE:EnvOk P e) (hm:P.follows .mixedOrders=true) (h83:Con e 83 toldF.O) (hf:P.funcs[104]?=some fn) (hc:Zaj P fn=some a104) (hb:Zaf P 104):OvOk P 104 journalF.O:=by
 refine Zal hb ?_
 intro x hx
 refine ⟨rfl,rfl,C.of_V hE hm hf hc ?_⟩
 by_cases hM:x.may
 ·rw [show journalF.out x=.tup [.int .i64 (x.log+1),.int .i64 0] by simp [journalF,hM]]
  have hM':=hM
  unfold Cfg.may at hM'
  have hl:=Zdc hM
  obtain ⟨id,members,chunk,rows,log,heads⟩:=x
  dsimp only at hM' hl ⊢
  show VW P e 0 (match a104 with|.mk c _=>c) (Zax [AV.agg [.int .u32 id,.int .i64 members,.int .i64 chunk,.int .i64 rows,.int .i64 log,.int .i64 heads]] 0 .lf) St0 none [] _
  conv=>whnf
  repeat' (first|(refine w7 rfl rfl (by omega) ?_;conv=>whnf)|fail)
  refine ESc.fam toldF h83 (⟨id,members,chunk,rows,log,heads⟩,_) hx (u:=.tup [_,.int .i64 0]) (by simp only [toldF,if_pos hM];rfl) ?_;conv=>whnf
  exact .plain _ rfl
 ·rw [show journalF.out x=.tup [.int .i64 0,.int .i64 8] by simp [journalF,hM]]
  obtain ⟨id,members,chunk,rows,log,heads⟩:=x
  show VW P e 0 (match a104 with|.mk c _=>c) (Zax [AV.agg [.int .u32 id,.int .i64 members,.int .i64 chunk,.int .i64 rows,.int .i64 log,.int .i64 heads]] 0 .lf) St0 none [] _
  conv=>whnf
  repeat' (first|(refine EPrim.mul rfl rfl ?_;conv=>whnf)|(refine EPrim.add (q:=.i64) rfl rfl ?_;conv=>whnf)|fail)
  refine ESc.fam toldF h83 (⟨id,members,chunk,rows,log,heads⟩,_) hx (u:=.tup [.int .i64 0,.int .i64 8]) (by simp only [toldF,if_neg hM]) ?_;conv=>whnf
  exact .plain _ rfl
end Go.AM
