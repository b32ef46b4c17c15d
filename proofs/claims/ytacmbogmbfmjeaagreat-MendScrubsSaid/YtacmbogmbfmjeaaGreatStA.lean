/-
 Functions of the program as the abstract machine reads them, and what is stated of them, checked by the kernel. No conditions.
-/
import Derived.Test.YtacmbogmbfmjeaaGreatXA1
import Derived.Test.YtacmbogmbfmjeaaGreatXA2
import Derived.Test.YtacmbogmbfmjeaaGreatXA3
import Derived.Test.YtacmbogmbfmjeaaGreatXA4
import Derived.Test.YtacmbogmbfmjeaaGreatXA5
import Derived.Test.YtacmbogmbfmjeaaGreatXA6
import Derived.Test.YtacmbogmbfmjeaaGreatAM5
set_option linter.unusedVariables false
set_option linter.unusedSimpArgs false
set_option linter.unnecessarySimpa false
set_option maxRecDepth 100000
namespace Go.AM
attribute [local irreducible] W
open X
theorem IN {b:Bool}{y z:Prop}(h:b=true) (hy:y):(Bool.rec (motive:=fun _=>Prop) z y b):=by rw [h];exact hy
section
variable {t:AT}{s:St}{k:AV→St→Prop}{x y:AO}
end
def As (bs:List Nat):List Nat:=if bs=[] then List.replicate 128 0 else bs
section
variable {t:AT}{s:St}{k:AV→St→Prop}{x y:AO}
end
end Go.AM
namespace Go.AM
attribute [local irreducible] W
open X
section
variable {t:AT}{s:St}{k:AV→St→Prop}{x y:AO}
end
end Go.AM
namespace Go.AM
attribute [local irreducible] W
open X
section
variable {t:AT}{s:St}{k:AV→St→Prop}{x y:AO}
end
end Go.AM
namespace Go.AM
attribute [local irreducible] W
open X
def FH (n:Int):Bool:=decide (1≤n∧n≤2147483648)
def supB (age seq tail:Int):Bool:=FH age && FH seq && decide (0≤tail∧tail<255)
structure Sup where
 id:Int
 age:Int
 seq:Int
 tail:Int
def Sup.ok (x:Sup):Prop:=(0≤x.id∧x.id<4294967296)∧(0≤x.age∧x.age<4294967296)∧(0≤x.seq∧x.seq<4294967296)
def Sup.v (x:Sup):AV:=.agg [.int .u32 x.id,.int .u32 x.age,.int .u32 x.seq,.int .i64 x.tail]
def Sup.b (x:Sup):Bool:=supB x.age x.seq x.tail
theorem Zfc {bs:List Nat}(h:bs.length=128):As bs=bs:=by
 unfold As;rw [Zjn];intro e;subst e;cases h
structure Cfg where
 id:Int
 members:Int
 chunk:Int
 rows:Int
 log:Int
 heads:Int
def Ad (n:Int):Prop:=-9223372036854775808≤n∧n≤9223372036854775807
def Bm (n:Int):Prop:=0≤n∧n<4294967296
structure Cfg.ok (c:Cfg):Prop where
 id:Bm c.id
 members:Ad c.members
 chunk:Ad c.chunk
 rows:Ad c.rows
 log:Ad c.log
 heads:Ad c.heads
def Cfg.c (x:Cfg):List AV:=[.int .u32 x.id,.int .i64 x.members,.int .i64 x.chunk,.int .i64 x.rows,.int .i64 x.log,.int .i64 x.heads]
def Cfg.v (x:Cfg):AV:=.agg x.c
variable {x y:Cfg}
theorem Cfg.inj (h:x.c=y.c):x=y:=by
 obtain ⟨a,b,c,d,e,f⟩:=x
 obtain ⟨a',b',c',d',e',f'⟩:=y
 simp [Cfg.c] at h
 obtain ⟨rfl,rfl,rfl,rfl,rfl,rfl⟩:=h;rfl
theorem GN (h:x.v=y.v):x=y:=Cfg.inj (AV.agg.inj h)
def Cfg.may (x:Cfg):Prop:=(3≤x.members∧x.members≤16)∧(1≤x.chunk∧x.chunk≤8)∧(1≤x.rows∧x.rows≤8)∧(2≤x.heads∧x.heads≤8)∧(x.members+1)*(x.heads+1)≤x.log∧x.log≤255
instance (x:Cfg):Decidable x.may:=by unfold Cfg.may;infer_instance
theorem G6 (h:x.may):12≤x.log:=by
 unfold Cfg.may at h
 have:(4:Int)*3≤(x.members+1)*(x.heads+1):=Int.mul_le_mul (by omega) (by omega) (by decide) (by omega)
 omega
def cfgF:Fam Cfg:=⟨Cfg.ok,fun x=>[x.v],fun x=>.int .i64 (if x.may then 0 else 8),fun x y _ _ h=>by rw [GN (Zjr h).1]⟩
def Zd7:AC:=match Ns with|.mk c _=>c
theorem Do {a b:Int}(ha:0≤a∧a≤100000) (hb:0≤b∧b≤100000):-9223372036854775808≤a*b∧a*b≤9223372036854775807:=by
 have h1:0≤a*b:=Int.mul_nonneg ha.1 hb.1
 have h2:a*b≤100000*100000:=Int.mul_le_mul ha.2 hb.2 hb.1 (by decide)
 omega
variable {e:Env}
theorem Zeb (hE:EM P e) (h121:Inl e 147 Zd7 [.tmp 2]):OvOk P 103 cfgF.O:=by
 refine Ca g103.b ?_
 rintro ⟨id,members,chunk,rows,log,heads⟩ ⟨h1,h2,h3,h4,h5,h6⟩
 unfold Ad at h2 h3 h4 h5 h6
 dsimp only at h2 h3 h4 h5 h6
 refine ⟨rfl,rfl,C.of_G hE g103 ?_⟩
 have fin0:∀ s,((3≤members∧members≤16)∧(1≤chunk∧chunk≤8)∧(1≤rows∧rows≤8)∧(2≤heads∧heads≤8)∧(members+1)*(heads+1)≤log∧log≤255)→Frz s (.int .i64 0) (cfgF.out ⟨id,members,chunk,rows,log,heads⟩):=by
  intro s h
  show Frz s _ (.int .i64 (if Cfg.may ⟨id,members,chunk,rows,log,heads⟩ then 0 else 8))
  rw [Zjj (show Cfg.may ⟨id,members,chunk,rows,log,heads⟩ from h)];exact .plain _ rfl
 have fin8:∀ s,¬ ((3≤members∧members≤16)∧(1≤chunk∧chunk≤8)∧(1≤rows∧rows≤8)∧(2≤heads∧heads≤8)∧(members+1)*(heads+1)≤log∧log≤255)→Frz s (.int .i64 8) (cfgF.out ⟨id,members,chunk,rows,log,heads⟩):=by
  intro s h
  show Frz s _ (.int .i64 (if Cfg.may ⟨id,members,chunk,rows,log,heads⟩ then 0 else 8))
  rw [Zjn (show ¬ Cfg.may ⟨id,members,chunk,rows,log,heads⟩ from h)];exact .plain _ rfl
 show VW P e 0 (match N7 with|.mk c _=>c) (Al [AV.agg [.int .u32 id,.int .i64 members,.int .i64 chunk,.int .i64 rows,.int .i64 log,.int .i64 heads]] 0 .lf) St0 none [] _
 conv=>whnf
 repeat' (first|(refine ESc.inl h121 ?_;conv=>whnf)|(refine EExec.loop ?_;conv=>whnf)|(refine JC rfl rfl (by omega) (by omega) ?_;conv=>whnf)|(refine L8 rfl rfl (by omega) (by omega) ?_;conv=>whnf)|(refine Cl rfl rfl (Do (by omega) (by omega)) ?_;conv=>whnf)|((first|refine w1 rfl rfl ?_ ?_|refine w3 rfl rfl ?_ ?_) <;> intro _ <;> first|(exfalso;omega)|(conv=>whnf))|((first|refine w7 rfl rfl (by omega) ?_|refine w12 rfl ?_|refine w13 rfl ?_|refine w18 rfl ?_);conv=>whnf)|fail)
 all_goals first
  | exact fin8 _ (by omega)
  | exact fin0 _ (by omega)
def toldF:Fam (Cfg×Int):=⟨fun x=>x.1.ok,fun x=>[x.1.v,.int .i64 x.2],fun x=>.tup [.int .i64 (if x.1.may then x.2 else 0),.int .i64 (if x.1.may then 0 else 8)],fun x y _ _ h=>by
 obtain ⟨c,n⟩:=x
 obtain ⟨c',n'⟩:=y
 have h1:=GN (Zjr h).1
 have h2:=(AV.int.inj (Zjr (Zjr h).2).1).2
 dsimp only at h1 h2
 subst h1 h2;rfl⟩
theorem Zh (hE:EM P e) (h78:Con e 103 cfgF.O):OvOk P 88 toldF.O:=by
 refine Ca g88.b ?_
 rintro ⟨x,n⟩ hx
 refine ⟨rfl,rfl,C.of_G hE g88 ?_⟩
 by_cases hM:x.may
 ·rw [show toldF.out (x,n)=.tup [.int .i64 n,.int .i64 0] by simp [toldF,hM]]
  show VW P e 0 (match Lk with|.mk c _=>c) (Al [x.v,.int .i64 n] 0 .lf) St0 none [] _
  conv=>whnf
  refine ESc.fam cfgF h78 x hx (u:=.int .i64 0) (by simp [cfgF,hM]) ?_;conv=>whnf
  repeat' (first|((refine w6 rfl rfl ?_ ?_) <;> intro _ <;> first|(exfalso;omega)|(conv=>whnf))|fail)
  exact .plain _ rfl
 ·rw [show toldF.out (x,n)=.tup [.int .i64 0,.int .i64 8] by simp [toldF,hM]]
  show VW P e 0 (match Lk with|.mk c _=>c) (Al [x.v,.int .i64 n] 0 .lf) St0 none [] _
  conv=>whnf
  refine ESc.fam cfgF h78 x hx (u:=.int .i64 8) (by simp [cfgF,hM]) ?_;conv=>whnf
  repeat' (first|((refine w6 rfl rfl ?_ ?_) <;> intro _ <;> first|(exfalso;omega)|(conv=>whnf))|fail)
  exact .plain _ rfl
def stripesF:Fam Cfg:=⟨Cfg.ok,fun x=>[x.v],fun x=>.tup [.int .i64 (if x.may then x.chunk*x.rows else 0),.int .i64 (if x.may then 0 else 8)],fun x y _ _ h=>by rw [GN (Zjr h).1]⟩
theorem Wu (hE:EM P e) (h83:Con e 88 toldF.O):OvOk P 40 stripesF.O:=by
 refine Ca g40.b ?_
 intro x hx
 refine ⟨rfl,rfl,C.of_G hE g40 ?_⟩
 by_cases hM:x.may
 ·rw [show stripesF.out x=.tup [.int .i64 (x.chunk*x.rows),.int .i64 0] by simp [stripesF,hM]]
  have hM':=hM
  unfold Cfg.may at hM'
  have hl:=G6 hM
  obtain ⟨id,members,chunk,rows,log,heads⟩:=x
  dsimp only at hM' hl ⊢
  show VW P e 0 (match Lq with|.mk c _=>c) (Al [AV.agg [.int .u32 id,.int .i64 members,.int .i64 chunk,.int .i64 rows,.int .i64 log,.int .i64 heads]] 0 .lf) St0 none [] _
  conv=>whnf
  repeat' (first|(refine Cl rfl rfl (Do (by omega) (by omega)) ?_;conv=>whnf)|fail)
  refine ESc.fam toldF h83 (⟨id,members,chunk,rows,log,heads⟩,_) hx (u:=.tup [_,.int .i64 0]) (by simp only [toldF,Zjj hM];rfl) ?_;conv=>whnf
  exact .plain _ rfl
 ·rw [show stripesF.out x=.tup [.int .i64 0,.int .i64 8] by simp [stripesF,hM]]
  obtain ⟨id,members,chunk,rows,log,heads⟩:=x
  show VW P e 0 (match Lq with|.mk c _=>c) (Al [AV.agg [.int .u32 id,.int .i64 members,.int .i64 chunk,.int .i64 rows,.int .i64 log,.int .i64 heads]] 0 .lf) St0 none [] _
  conv=>whnf
  repeat' (first|(refine EPrim.mul rfl rfl ?_;conv=>whnf)|(refine EPrim.add (q:=.i64) rfl rfl ?_;conv=>whnf)|fail)
  refine ESc.fam toldF h83 (⟨id,members,chunk,rows,log,heads⟩,_) hx (u:=.tup [.int .i64 0,.int .i64 8]) (by simp only [toldF,Zjn hM]) ?_;conv=>whnf
  exact .plain _ rfl
def needF:Fam Cfg:=⟨Cfg.ok,fun x=>[x.v],fun x=>.tup [.int .i64 (if x.may then x.members+1 else 0),.int .i64 (if x.may then 0 else 8)],fun x y _ _ h=>by rw [GN (Zjr h).1]⟩
theorem Z4 (hE:EM P e) (h83:Con e 88 toldF.O):OvOk P 185 needF.O:=by
 refine Ca g185.b ?_
 intro x hx
 refine ⟨rfl,rfl,C.of_G hE g185 ?_⟩
 by_cases hM:x.may
 ·rw [show needF.out x=.tup [.int .i64 (x.members+1),.int .i64 0] by simp [needF,hM]]
  have hM':=hM
  unfold Cfg.may at hM'
  have hl:=G6 hM
  obtain ⟨id,members,chunk,rows,log,heads⟩:=x
  dsimp only at hM' hl ⊢
  show VW P e 0 (match KY with|.mk c _=>c) (Al [AV.agg [.int .u32 id,.int .i64 members,.int .i64 chunk,.int .i64 rows,.int .i64 log,.int .i64 heads]] 0 .lf) St0 none [] _
  conv=>whnf
  repeat' (first|(refine w7 rfl rfl (by omega) ?_;conv=>whnf)|fail)
  refine ESc.fam toldF h83 (⟨id,members,chunk,rows,log,heads⟩,_) hx (u:=.tup [_,.int .i64 0]) (by simp only [toldF,Zjj hM];rfl) ?_;conv=>whnf
  exact .plain _ rfl
 ·rw [show needF.out x=.tup [.int .i64 0,.int .i64 8] by simp [needF,hM]]
  obtain ⟨id,members,chunk,rows,log,heads⟩:=x
  show VW P e 0 (match KY with|.mk c _=>c) (Al [AV.agg [.int .u32 id,.int .i64 members,.int .i64 chunk,.int .i64 rows,.int .i64 log,.int .i64 heads]] 0 .lf) St0 none [] _
  conv=>whnf
  repeat' (first|(refine EPrim.mul rfl rfl ?_;conv=>whnf)|(refine EPrim.add (q:=.i64) rfl rfl ?_;conv=>whnf)|fail)
  refine ESc.fam toldF h83 (⟨id,members,chunk,rows,log,heads⟩,_) hx (u:=.tup [.int .i64 0,.int .i64 8]) (by simp only [toldF,Zjn hM]) ?_;conv=>whnf
  exact .plain _ rfl
def journalF:Fam Cfg:=⟨Cfg.ok,fun x=>[x.v],fun x=>.tup [.int .i64 (if x.may then x.log+1 else 0),.int .i64 (if x.may then 0 else 8)],fun x y _ _ h=>by rw [GN (Zjr h).1]⟩
theorem W8 (hE:EM P e) (h83:Con e 88 toldF.O):OvOk P 60 journalF.O:=by
 refine Ca g60.b ?_
 intro x hx
 refine ⟨rfl,rfl,C.of_G hE g60 ?_⟩
 by_cases hM:x.may
 ·rw [show journalF.out x=.tup [.int .i64 (x.log+1),.int .i64 0] by simp [journalF,hM]]
  have hM':=hM
  unfold Cfg.may at hM'
  have hl:=G6 hM
  obtain ⟨id,members,chunk,rows,log,heads⟩:=x
  dsimp only at hM' hl ⊢
  show VW P e 0 (match Lp with|.mk c _=>c) (Al [AV.agg [.int .u32 id,.int .i64 members,.int .i64 chunk,.int .i64 rows,.int .i64 log,.int .i64 heads]] 0 .lf) St0 none [] _
  conv=>whnf
  repeat' (first|(refine w7 rfl rfl (by omega) ?_;conv=>whnf)|fail)
  refine ESc.fam toldF h83 (⟨id,members,chunk,rows,log,heads⟩,_) hx (u:=.tup [_,.int .i64 0]) (by simp only [toldF,Zjj hM];rfl) ?_;conv=>whnf
  exact .plain _ rfl
 ·rw [show journalF.out x=.tup [.int .i64 0,.int .i64 8] by simp [journalF,hM]]
  obtain ⟨id,members,chunk,rows,log,heads⟩:=x
  show VW P e 0 (match Lp with|.mk c _=>c) (Al [AV.agg [.int .u32 id,.int .i64 members,.int .i64 chunk,.int .i64 rows,.int .i64 log,.int .i64 heads]] 0 .lf) St0 none [] _
  conv=>whnf
  repeat' (first|(refine EPrim.mul rfl rfl ?_;conv=>whnf)|(refine EPrim.add (q:=.i64) rfl rfl ?_;conv=>whnf)|fail)
  refine ESc.fam toldF h83 (⟨id,members,chunk,rows,log,heads⟩,_) hx (u:=.tup [.int .i64 0,.int .i64 8]) (by simp only [toldF,Zjn hM]) ?_;conv=>whnf
  exact .plain _ rfl
structure Lv where
 seq:Int
 stripe:Int
 blocks:Int
 par:Bool
 sure:Bool
 home:Bool
def Lv.c (x:Lv):List AV:=[.int .u32 x.seq,.int .i64 x.stripe,.int .i64 x.blocks,.bool x.par,.bool x.sure,.bool x.home]
structure Lv.ok (x:Lv):Prop where
 seq:Bm x.seq
 stripe:Ad x.stripe
 blocks:Ad x.blocks
def Eg (L:List Lv):List AV:=L.flatMap Lv.c
theorem JW (x:Lv) (L:List Lv):Eg (x::L)=x.c++Eg L:=rfl
theorem NQ:∀ (L:List Lv),(Eg L).length=L.length*6
 | []=>rfl
 | x::L=>by rw [JW,Zjt,NQ L,Zj9];show 6+_=_;omega
theorem S4:∀ (L:List Lv) (i:Nat),(Eg L).drop (i*6)=Eg (L.drop i)
 | L,0=>by simp
 | [],i+1=>by simp [Eg]
 | x::L,i+1=>by
  rw [List.drop_succ_cons,← S4 L i,JW,show (i+1)*6=x.c.length+i*6 by show (i+1)*6=6+i*6;omega,List.drop_append,Zkb (by omega),List.nil_append]
  congr 1;omega
variable {L:List Lv}
theorem Ot {i:Nat}(h:i<L.length):Bi 6 ((Eg L).drop (i*6))=some L[i].c:=by
 rw [S4,Zj2 h,JW];rfl
theorem OE:∀ {L M:List Lv},Eg L=Eg M→L=M
 | [],[],_=>rfl
 | [],y::M,h=>by cases h
 | x::L,[],h=>by cases h
 | x::L,y::M,h=>by
  obtain ⟨a,b,c,d,e,f⟩:=x
  obtain ⟨a',b',c',d',e',f'⟩:=y
  rw [JW,JW] at h
  simp [Lv.c] at h
  obtain ⟨rfl,rfl,rfl,rfl,rfl,rfl,h⟩:=h
  rw [OE h]
structure Log where
 age:Int
 seq:Int
 tail:Int
 used:Int
 live:List Lv
structure Log.ok (l:Log):Prop where
 age:Bm l.age
 seq:Bm l.seq
 tail:Ad l.tail
 used:Ad l.used
 live:∀ x ∈ l.live,x.ok
 len:l.live.length≤1000
def Log.c (l:Log) (v:AV):List AV:=[.int .u32 l.age,.int .u32 l.seq,.int .i64 l.tail,.int .i64 l.used,v]
def LSl (L:List Lv) (v:AV):Prop:=Sl 6 L.length (Eg L) v
theorem LSl.inj {M:List Lv}{v:AV}(h:LSl L v) (k:LSl M v):L=M:=by
 refine OE ?_
 rcases h with ⟨rfl,_,h⟩|⟨rfl,_,h⟩|⟨c,rfl,h⟩
 ·rcases k with ⟨_,_,k⟩|⟨e,_⟩|⟨c,e,_⟩
  ·rw [h,k]
  ·cases e
  ·cases e
 ·rcases k with ⟨e,_⟩|⟨_,_,k⟩|⟨c,e,_⟩
  ·cases e
  ·rw [h,k]
  ·cases e
 ·rcases k with ⟨e,_⟩|⟨e,_⟩|⟨c,e,_⟩
  ·cases e
  ·cases e
  ·injection e with _ _ e
structure Ring where
 l:Log
 c:Cfg
structure Ring.ok (r:Ring):Prop where
 l:r.l.ok
 c:r.c.ok
def Ring.cs (r:Ring) (v:AV):List AV:=r.l.c v++r.c.c
def KM (c:AV) (es:List (AV×AV×Nat)) (ks:List Int):Prop:=es.map (fun e=>(e.1,e.2.1))=ks.map (fun k=>(AV.int .i64 k,c))
theorem KM.nil (c:AV):KM c [] []:=rfl
theorem KM.cons {c:AV}{e:AV×AV×Nat}{es:List (AV×AV×Nat)}{ks:List Int}(h:KM c (e::es) ks):∃ k l,ks=k::l∧e.1=.int .i64 k∧e.2.1=c∧KM c es l:=by
 cases ks with
 | nil=>cases h
 | cons k l=>
  unfold KM at h
  simp at h
  exact ⟨k,l,rfl,h.1.1,h.1.2,h.2⟩
theorem KM.length {c:AV}:∀ {es:List (AV×AV×Nat)}{ks:List Int},KM c es ks→es.length=ks.length:=fun h=>by
 have:=congrArg List.length h;simpa using this
theorem LC (a b:Int):Er (.int .i64 a) (.int .i64 b)=some (a == b):=by
 show cond (BU .i64 .i64) (some (Dj a b)) none=_
 rw [F6];rfl
theorem KM.find {c:AV}{k:Int}:∀ {es:List (AV×AV×Nat)}{ks:List Int},KM c es ks→Cu (.int .i64 k) es=some (if k ∈ ks then some c else none)
 | [],ks,h=>by
  have:=h.length;simp at this
  have:ks=[]:=Zkd.1 this.symm
  subst this;rfl
 | (a,b,n)::es,ks,h=>by
  obtain ⟨k',l,rfl,e1,e2,h'⟩:=h.cons
  dsimp only at e1 e2
  subst e1 e2
  show (match Er (.int .i64 k) (.int .i64 k') with|some true=>some (some b)|some false=>Cu (.int .i64 k) es|none=>none)=_
  rw [LC]
  by_cases hk:k=k'
  ·subst hk;simp
  ·rw [show (k == k')=false by simpa using hk]
   simp only
   rw [KM.find h'];simp [hk]
theorem KM.set {c:AV}{k:Int}:∀ {es:List (AV×AV×Nat)}{ks:List Int},KM c es ks→KM c (Gr (.int .i64 k) c es) ks
 | [],ks,h=>h
 | (a,b,n)::es,ks,h=>by
  obtain ⟨k',l,rfl,e1,e2,h'⟩:=h.cons
  dsimp only at e1 e2
  subst e1 e2
  show KM b (match Er (.int .i64 k) (.int .i64 k') with|some true=>(.int .i64 k,b,n)::es|_=>(.int .i64 k',b,n)::Gr (.int .i64 k) b es) _
  rw [LC]
  by_cases hk:k=k'
  ·subst hk;simp;exact h
  ·rw [show (k == k')=false by simpa using hk]
   simp only
   have:=KM.set (k:=k) h'
   unfold KM at this ⊢
   simp [this]
theorem KM.app {c:AV}{k:Int}{n:Nat}{es:List (AV×AV×Nat)}{ks:List Int}(h:KM c es ks):KM c (es++[(.int .i64 k,c,n)]) (ks++[k]):=by
 unfold KM at h ⊢;simp [h]
theorem KM.del {c:AV}{k:Int}:∀ {es:List (AV×AV×Nat)}{ks:List Int},KM c es ks→KM c (Ez (.int .i64 k) es) (ks.erase k)
 | [],ks,h=>by
  have:=h.length;simp at this
  have:ks=[]:=Zkd.1 this.symm
  subst this;exact KM.nil c
 | (a,b,n)::es,ks,h=>by
  obtain ⟨k',l,rfl,e1,e2,h'⟩:=h.cons
  dsimp only at e1 e2
  subst e1 e2
  show KM b (match Er (.int .i64 k) (.int .i64 k') with|some true=>es|_=>(.int .i64 k',b,n)::Ez (.int .i64 k) es) _
  rw [LC,List.erase_cons]
  by_cases hk:k=k'
  ·subst hk;simp;exact h'
  ·rw [show (k == k')=false by simpa using hk,show (k' == k)=false by simpa using fun e=>hk e.symm]
   simp only
   have:=KM.del (k:=k) h'
   unfold KM at this ⊢
   simp [this]
def DA (k:Int) (l:List Int):List Int:=if k ∈ l then l else l++[k]
section
variable {t:AT}{s:St}{q:AV→St→Prop}{x y z:AO}
variable {c:AV}{r n:Nat}{k:Int}{es:List (AV×AV×Nat)}{ks:List Int}
theorem H0 (hx:ev x t=.some (.map r)) (hy:ev y t=.some (.int .i64 k)) (hz:ev z t=.some c) (hs:s.get r=some (.map es n)) (hk:KM c es ks)
 (h:∀ es' n',KM c es' (DA k ks)→q (.tup []) (s.put r (.map es' n'))):EPrim (.mset x y z) t s q:=by
 by_cases hm:k ∈ ks
 ·refine EPrim.mk (v:=.tup []) (s':=s.put r (.map (Gr (.int .i64 k) c es) n)) (fun e rec=>?_) (h _ _ (by unfold DA;rw [Zjj hm];exact hk.set))
  show wth x t _=_;unfold wth;rw [hx]
  show wth y t _=_;unfold wth;rw [hy]
  show wth z t _=_;unfold wth;rw [hz]
  show (Option.rec .fail _ (mapAt r s):RV)=_
  unfold mapAt;rw [hs]
  show (Option.rec .fail _ (Cu (.int .i64 k) es):RV)=_
  rw [hk.find,Zjj hm]
 ·refine EPrim.mk (v:=.tup []) (s':=s.put r (.map (es++[(.int .i64 k,c,n)]) (n+1))) (fun e rec=>?_) (h _ _ (by unfold DA;rw [Zjn hm];exact hk.app))
  show wth x t _=_;unfold wth;rw [hx]
  show wth y t _=_;unfold wth;rw [hy]
  show wth z t _=_;unfold wth;rw [hz]
  show (Option.rec .fail _ (mapAt r s):RV)=_
  unfold mapAt;rw [hs]
  show (Option.rec .fail _ (Cu (.int .i64 k) es):RV)=_
  rw [hk.find,Zjn hm]
  show RV.ok _ (s.put r (.map (AY es [(.int .i64 k,c,n)]) (n+1)))=_
  rw [CJ]
theorem WK (hx:ev x t=.some (.map r)) (hy:ev y t=.some (.int .i64 k)) (hs:s.get r=some (.map es n)) (hk:KM c es ks)
 (h:∀ es' n',KM c es' (ks.erase k)→q (.tup []) (s.put r (.map es' n'))):EPrim (.mdel x y) t s q:=by
 refine EPrim.mk (v:=.tup []) (s':=s.put r (.map (Ez (.int .i64 k) es) n)) (fun e rec=>?_) (h _ _ hk.del)
 show wth x t _=_;unfold wth;rw [hx]
 show wth y t _=_;unfold wth;rw [hy]
 show (Option.rec .fail _ (mapAt r s):RV)=_
 unfold mapAt;rw [hs]
 show (Option.rec .fail _ (Cu (.int .i64 k) es):RV)=_
 rw [hk.find]
theorem H1 {zv:AV}(hx:ev x t=.some (.map r)) (hy:ev y t=.some (.int .i64 k)) (hs:s.get r=some (.map es n)) (hk:KM c es ks)
 (h1:k ∈ ks→q c s) (h2:k ∉ ks→q zv s):EPrim (.mget zv false x y) t s q:=by
 by_cases hm:k ∈ ks
 ·refine EPrim.mk (v:=c) (s':=s) (fun e rec=>?_) (h1 hm)
  show wth x t _=_;unfold wth;rw [hx]
  show wth y t _=_;unfold wth;rw [hy]
  show (Option.rec .fail _ (mapAt r s):RV)=_
  unfold mapAt;rw [hs]
  show (Option.rec .fail _ (Cu (.int .i64 k) es):RV)=_
  rw [hk.find,Zjj hm];rfl
 ·refine EPrim.mk (v:=zv) (s':=s) (fun e rec=>?_) (h2 hm)
  show wth x t _=_;unfold wth;rw [hx]
  show wth y t _=_;unfold wth;rw [hy]
  show (Option.rec .fail _ (mapAt r s):RV)=_
  unfold mapAt;rw [hs]
  show (Option.rec .fail _ (Cu (.int .i64 k) es):RV)=_
  rw [hk.find,Zjn hm];rfl
theorem WM (hx:ev x t=.some (.map r)) (hs:s.get r=some (.map es n)) (hk:KM c es ks)
 (h:q (.int .i64 (ks.length:Int)) s):EPrim (.lenm x) t s q:=by
 refine EPrim.mk (v:=.int .i64 (ks.length:Int)) (s':=s) (fun e rec=>?_) h
 show wth x t _=_;unfold wth;rw [hx]
 show (Option.rec .fail _ (mapAt r s):RV)=_
 unfold mapAt;rw [hs]
 show RV.ok (Ch (AR es)) s=_
 rw [E7,hk.length];rfl
end
theorem Ds {c:AV}{n:Nat}(hc:bd n c=true):∀ {es:List (AV×AV×Nat)}{ks:List Int},KM c es ks→Ht n es=true
 | [],ks,h=>rfl
 | (a,b,m)::es,ks,h=>by
  obtain ⟨k',l,rfl,e1,e2,h'⟩:=h.cons
  dsimp only at e1 e2
  subst e1 e2
  show (true && bd n b && Ht n es)=true
  rw [hc,Ds hc h'];rfl
theorem Dq {c:AV}{ρ:Nat→Nat}(hc:Bc ρ c=c):∀ {es:List (AV×AV×Nat)}{ks:List Int},KM c es ks→BI ρ es=es
 | [],ks,h=>rfl
 | (a,b,m)::es,ks,h=>by
  obtain ⟨k',l,rfl,e1,e2,h'⟩:=h.cons
  dsimp only at e1 e2
  subst e1 e2
  show (AV.int .i64 k',Bc ρ b,m)::BI ρ es=_
  rw [Dq hc h',hc]
def Jk (l:List Int) (x:Lv):List Int:=if x.par then (DA x.stripe l).erase x.stripe else DA x.stripe l
def EF (L:List Lv):List Int:=L.foldl Jk []
def Zd6:AC:=match Nf with|.mk c _=>c
variable {l cs:List AV}
theorem Ay {n:Nat}{k:List AV→Prop}(h:Bi n l=some cs) (hk:k cs):ETake n l k:=by
 unfold ETake;exact ⟨cs,h,hk⟩
theorem Y1 (e:Env) (hE:EM P e) (r:Ring) (hr:r.ok) (v:AV) (hv:LSl r.l.live v) (Q:AV→St→Prop) (k:∀ s,Q (.int .i64 ((EF r.l.live).length:Int)) s):
 VW P e 0 Zd6 (Al [.fp (r.cs v)] 0 .lf) St0 none [] (Cj [.tmp 2] Q):=by
 obtain ⟨L,hL⟩:∃ L,L=r.l.live:=⟨_,rfl⟩
 rw [← hL] at hv k
 have hlen:L.length≤1000:=by rw [hL];exact hr.l.len
 conv=>whnf
 refine EHead.mk rfl ?_;conv=>whnf
 refine Ac rfl hv ?_;conv=>whnf
 refine OZ (α:=Nat×List (AV×AV×Nat)×Nat) (fun x=>[(3,.map 0),(11,v),(12,.int .i64 (L.length:Int)),(13,.int .i64 (x.1:Int))]) (fun x=>[.map x.2.1 x.2.2]) (fun x=>L.length-x.1)
  (fun x=>x.1≤L.length∧KM (.bool true) x.2.1 (EF (L.take x.1))) (0,[],0) [0] ⟨Zjy _,KM.nil _⟩ ⟨by decide,⟨r9,t9 hv.hf,r9,r9,trivial⟩,⟨r9,trivial⟩⟩ ?_
 rintro ⟨i,es,n⟩ ⟨hi,hK⟩
 dsimp only at hi hK ⊢
 refine Cz hE ?_;conv=>whnf
 refine Bd rfl rfl (fun h=>?_) (fun h=>?_) <;> conv=>whnf
 ·have hlt:i<L.length:=by omega
  refine BZ rfl hv rfl hlt ?_;conv=>whnf
  refine Ay (Ot hlt) ?_
  have hst:EF (L.take (i+1))=Jk (EF (L.take i)) L[i]:=by
   rw [Zjs hlt];unfold EF;rw [List.foldl_append];rfl
  revert hst
  generalize L[i]=x
  obtain ⟨sq,st,bl,pa,su,ho⟩:=x
  intro hst
  have fin:∀ t s es' n',KM (.bool true) es' (EF (L.take (i+1)))→t.get 3=some (.map 0)→t.get 11=some v→t.get 12=some (.int .i64 (L.length:Int))→t.get 13=some (.int .i64 ((i:Int)+1))→s.get 0=some (.map es' n')→
   ([]:List Nat)=[]∧∃ x':Nat×List (AV×AV×Nat)×Nat,(x'.1≤L.length∧KM (.bool true) x'.2.1 (EF (L.take x'.1)))∧L.length-x'.1<L.length-i∧∃ rs,Abs t s [(3,.map 0),(11,v),(12,.int .i64 (L.length:Int)),(13,.int .i64 (x'.1:Int))] [.map x'.2.1 x'.2.2] rs:=by
   intro t s es' n' hK h3 h11 h12 h13 g0
   refine ⟨rfl,(i+1,es',n'),⟨hlt,hK⟩,by simp;omega,[0],⟨by decide,⟨⟨rfl,h3⟩,⟨DZ _ hv.hf,by rw [DF _ hv.hf];exact h11⟩,⟨rfl,h12⟩,⟨rfl,h13⟩,trivial⟩,⟨⟨Ds rfl hK,?_⟩,trivial⟩⟩⟩
   show _=some (AObj.map (BI _ es') n');rw [Dq rfl hK];exact g0
  conv=>whnf
  refine H0 rfl rfl rfl rfl hK (fun es' n' hK'=>?_)
  cases pa with
  | true=>
   conv=>whnf
   refine WK rfl rfl rfl hK' (fun es'' n'' hK''=>?_);conv=>whnf
   repeat' (first|((first|refine w7 rfl rfl (by omega) ?_|refine ⟨rfl,?_⟩);conv=>whnf)|fail)
   refine (fin _ _ es'' n'' (by rw [hst];exact hK'') ?_ ?_ ?_ ?_ ?_).2 <;> rfl
  | false=>
   conv=>whnf
   repeat' (first|((first|refine w7 rfl rfl (by omega) ?_|refine ⟨rfl,?_⟩);conv=>whnf)|fail)
   refine (fin _ _ es' n' (by rw [hst];exact hK') ?_ ?_ ?_ ?_ ?_).2 <;> rfl
 ·have:L.take i=L:=Zjo (by omega)
  rw [this] at hK
  refine WM rfl rfl hK ?_;conv=>whnf
  exact k _
structure RAt (s:St) (a:AV) (r:Ring) (v:AV):Prop where
 frz:Frz s a (.fp (r.cs v))
 sl:LSl r.l.live v
 ok:r.ok
def atom:AV→Bool
 | .int ..=>true
 | .bool _=>true
 | _=>false
variable {s:St}{x u:AV}
theorem Frz.atom (h:Frz s x u) (ha:atom u=true):x=u:=by
 cases h with
 | plain _ _=>rfl
 | sl _ _ _ _ _ _ _ _ _=>cases ha
 | ptr _ _ _ _ _ _=>cases ha
 | agg _ _ _=>cases ha
 | tup _ _ _=>cases ha
 | fn _ _ _ _ _ _ _=>cases ha
theorem Oe {s:St}:∀ {l us:List AV},All2 (Frz s) l us→(∀ u ∈ us,AM.atom u=true)→l=us
 | _,_,.nil,_=>rfl
 | _,_,.cons a b,h=>by rw [a.atom (h _ (by simp)),Oe b (fun u hu=>h u (by simp [hu]))]
theorem Frz.of_hf (h:Frz s x u) (hx:AM.hf x=true):(∀ l,x≠.agg l)→(∀ l,x≠.tup l)→(∀ f a b,x≠.fn f a b)→u=x:=by
 cases h with
 | plain _ _=>intros;rfl
 | sl _ _ _ _ _ _ _ _ _=>cases hx
 | ptr _ _ _ _ _ _=>cases hx
 | agg l _ _=>intro h;exact absurd rfl (h l)
 | tup l _ _=>intro _ h;exact absurd rfl (h l)
 | fn f a b _ _ _ _=>intro _ _ h;exact absurd rfl (h f a b)
variable {L:List Lv}
theorem SO:∀ u ∈ Eg L,atom u=true:=by
 induction L with
 | nil=>intro u h;cases h
 | cons x L ih=>
  intro u h
  rcases Zj7.1 (show u ∈ x.c++Eg L from h) with h|h
  ·simp [Lv.c] at h
   rcases h with rfl|rfl|rfl|rfl|rfl|rfl <;> rfl
  ·exact ih u h
theorem Sw {l':List AV}{o:Nat}(h:∀ (i:Nat) x,l[i]?=some x→cs[o+i]?=some x) (h':∀ (i:Nat) x,l'[i]?=some x→cs[o+i]?=some x) (hl:l.length=l'.length):l=l':=by
 refine List.ext_getElem? fun i=>?_
 by_cases hi:i<l.length
 ·have h1:=h i _ (Zjf hi)
  have h2:=h' i _ (Zjf (l:=l') (i:=i) (by omega))
  rw [Zjf hi,Zjf (l:=l') (i:=i) (by omega),← h1,← h2]
 ·rw [Zlg (by omega),Zlg (by omega)]
variable {v v':AV}
theorem Frz.live {L':List Lv}(h:Frz s x v) (h':Frz s x v') (hv:LSl L v) (hv':LSl L' v'):L=L':=by
 rcases hv with ⟨rfl,e1,e2⟩|⟨rfl,e1,e2⟩|⟨c,rfl,e2⟩
 ·have hx:x=.nils:=by cases h;rfl
  subst hx
  have:=h'.of_hf rfl (by simp) (by simp) (by simp)
  subst this
  exact LSl.inj (.inl ⟨rfl,e1,e2⟩) hv'
 ·have hx:x=.es:=by cases h;rfl
  subst hx
  have:=h'.of_hf rfl (by simp) (by simp) (by simp)
  subst this
  exact LSl.inj (.inr (.inl ⟨rfl,e1,e2⟩)) hv'
 ·cases h with
  | plain _ hh=>
   have:=h'.of_hf rfl (by simp) (by simp) (by simp)
   subst this
   exact LSl.inj (.inr (.inr ⟨c,rfl,e2⟩)) hv'
  | sl r o n cap cap' e cs l us h1 h2 h3 h4=>
   have hl1:=Oe h3 SO
   cases h' with
   | plain _ hh=>cases hh
   | sl _ _ _ _ cap2 e2' cs2 l2 us2 g1 g2 g3 g4=>
    rw [h1] at g1;cases g1
    rcases hv' with ⟨q,_⟩|⟨q,_⟩|⟨c2,q,q2⟩
    ·cases q
    ·cases q
    ·injection q with q0 _ q3
     subst q3
     have hl2:=Oe g3 SO
     rw [hl1] at h2;rw [hl2] at g2
     refine OE (Sw h2 g2 ?_)
     rw [NQ,NQ,q0]
theorem LL:∀ {l:List AV},hfs l=true→All2 (Frz s) l l
 | [],_=>.nil
 | x::l,h=>by
  simp only [hfs,Zjh] at h
  exact .cons (.plain _ h.1) (LL h.2)
theorem S7 (r:Ring) (h:LSl r.l.live v):hfs (r.cs v)=true:=by
 show (true && (true && (true && (true && (AM.hf v && (true && (true && (true && (true && (true && (true && true)))))))))))=true
 rw [h.hf];rfl
theorem RAt.inj {a:AV}{r r':Ring}(h:RAt s a r v) (h':RAt s a r' v'):r=r':=by
 have key:∀ (l:List AV),All2 (Frz s) l (r.cs v)→All2 (Frz s) l (r'.cs v')→r=r':=by
  intro l g g'
  obtain ⟨⟨ag,sq,tl,us,lv⟩,⟨i1,i2,i3,i4,i5,i6⟩⟩:=r
  obtain ⟨⟨ag',sq',tl',us',lv'⟩,⟨j1,j2,j3,j4,j5,j6⟩⟩:=r'
  cases g with|cons a1 g=>cases g with|cons a2 g=>cases g with|cons a3 g=>cases g with|cons a4 g=>cases g with|cons a5 g=>cases g with|cons a6 g=>cases g with|cons a7 g=>cases g with|cons a8 g=>cases g with|cons a9 g=>cases g with|cons a10 g=>cases g with|cons a11 g=>
  cases g' with|cons b1 g'=>cases g' with|cons b2 g'=>cases g' with|cons b3 g'=>cases g' with|cons b4 g'=>cases g' with|cons b5 g'=>cases g' with|cons b6 g'=>cases g' with|cons b7 g'=>cases g' with|cons b8 g'=>cases g' with|cons b9 g'=>cases g' with|cons b10 g'=>cases g' with|cons b11 g'=>
  have c1:=(a1.atom rfl).symm.trans (b1.atom rfl)
  have c2:=(a2.atom rfl).symm.trans (b2.atom rfl)
  have c3:=(a3.atom rfl).symm.trans (b3.atom rfl)
  have c4:=(a4.atom rfl).symm.trans (b4.atom rfl)
  have c5:=a5.live b5 h.sl h'.sl
  have c6:=(a6.atom rfl).symm.trans (b6.atom rfl)
  have c7:=(a7.atom rfl).symm.trans (b7.atom rfl)
  have c8:=(a8.atom rfl).symm.trans (b8.atom rfl)
  have c9:=(a9.atom rfl).symm.trans (b9.atom rfl)
  have c10:=(a10.atom rfl).symm.trans (b10.atom rfl)
  have c11:=(a11.atom rfl).symm.trans (b11.atom rfl)
  injection c1 with _ c1;injection c2 with _ c2;injection c3 with _ c3;injection c4 with _ c4;injection c6 with _ c6;injection c7 with _ c7;injection c8 with _ c8;injection c9 with _ c9;injection c10 with _ c10;injection c11 with _ c11
  dsimp only at c1 c2 c3 c4 c5 c6 c7 c8 c9 c10 c11
  subst c1 c2 c3 c4 c5 c6 c7 c8 c9 c10 c11;rfl
 have hf1:=h.frz
 have hf2:=h'.frz
 generalize hu:r.cs v=us at hf1
 generalize hu':r'.cs v'=us' at hf2
 cases hf1 with
 | plain _ hh=>
  have:=hf2.of_hf rfl (by simp) (by simp) (by simp)
  injection this with this
  subst this
  have H:=S7 r h.sl
  refine key (r.cs v) (LL H) ?_
  rw [hu',← hu]
  exact LL H
 | ptr q o e cs l us h1 h2 h3=>
  cases hf2 with
  | ptr _ _ e2 cs2 l2 us2 g1 g2 g3=>
   rw [h1] at g1;cases g1
   subst hu hu'
   have:l=l2:=Sw h2 g2 (by rw [h3.length,g3.length];rfl)
   subst this
   exact key l h3 g3
mutual
theorem P8:∀ (v:AV),sc v=true→AM.hf v=true
 | .ptr ..,h=>by cases h
 | .sl ..,h=>by cases h
 | .map ..,h=>by cases h
 | .yld ..,h=>by cases h
 | .fz ..,h=>by cases h
 | .fp ..,h=>by cases h
 | .fn f a b,h=>by
  simp only [sc,Zjh] at h
  simp only [AM.hf,Zjh]
  exact ⟨Kd a h.1,Kd b h.2⟩
 | .iface t v,h=>P8 v h
 | .agg l,h=>Kd l h
 | .tup l,h=>Kd l h
 | .bool _,_|.int _ _,_|.str _,_|.nilp,_|.nils,_|.es,_|.ez,_|.nilm,_|.nilf,_|.nili,_|.any,_=>rfl
theorem Kd:∀ (l:List AV),Hq l=true→AM.hfs l=true
 | [],_=>rfl
 | v::l,h=>by
  simp only [Hq,Zjh] at h
  simp only [AM.hfs,Zjh]
  exact ⟨P8 v h.1,Kd l h.2⟩
end
noncomputable def Ct (p:Ring→Prop) (g:Ring→AV):Ov:=fun args s=>open Classical in if h:∃ r a v,args=[a]∧RAt s a r v∧p r then .ok (g (Classical.choose h)) s else .fail
variable {p:Ring→Prop}{g:Ring→AV}{v:AV}{s:St}{r:Ring}
theorem LA {a:AV}(h:RAt s a r v) (hp:p r):Ct p g [a] s=.ok (g r) s:=by
 have hx:∃ r a' v,[a]=[a']∧RAt s a' r v∧p r:=⟨r,a,v,rfl,h,hp⟩
 unfold Ct
 rw [dif_pos hx]
 obtain ⟨a',v',e,h',_⟩:=Zku hx
 injection e with e
 subst e
 rw [RAt.inj h h']
theorem LH {f:Nat}(hb:Fd P f) (hg:∀ r,sc (g r)=true) (h:∀ r v,r.ok→p r→LSl r.l.live v→C P f [.fp (r.cs v)] St0 (fun u s'=>u=g r)):OvOk P f (Ct p g):=by
 refine ⟨hb,fun args s u s' hh=>?_⟩
 unfold Ct at hh
 split at hh
 ·rename_i hx
  cases hh
  obtain ⟨a,v,rfl,hr,hp⟩:=Zku hx
  have H2:hfs [AV.fp (Ring.cs (Classical.choose hx) v)]=true:=rfl
  exact K8 (.cons hr.frz .nil) (hg _) (I8 H2 ((h _ v hr.ok hp hr.sl).mono fun u s' e=>by
   rw [e];exact Frz.plain _ (P8 _ (hg (Classical.choose hx)))))
 ·cases hh
theorem RAt.fp (hv:LSl r.l.live v) (hr:r.ok):RAt s (.fp (r.cs v)) r v:=⟨.plain _ rfl,hv,hr⟩
def Hg (tk:List Int) (x:Lv):List Int:=if x.home && x.par then DA x.stripe tk else tk
def In (tk:List Int) (x:Lv):Bool:=x.home && (!x.sure || !decide (x.stripe ∈ Hg tk x))
def IS:List Lv→List Int→Bool
 | [],_=>true
 | x::l,tk=>!In tk x && IS l (Hg tk x)
def DX (L:List Lv):Bool:=IS L.reverse []
def OS:AC:=match Ni with|.mk c _=>c
def FC:AC→Option (AC×AC)
 | .rng _ _ a b=>some (a,b)
 | .seq a b=>match FC a with|some x=>some x|none=>FC b
 | .block _ b=>FC b
 | .loop b=>FC b
 | _=>none
def M1:AC:=match FC OS with|some (a,_)=>a|none=>.skip
def Mi:AC:=match FC OS with|some (_,b)=>b|none=>.skip
noncomputable def KA:AT:=At [(2,.ptr 0 0),(3,.ptr 2 0),(12,.fn 155 [] [.ptr 3 0])]
def OQ:AC:=match N3 with|.mk c _=>c
theorem Sl.cells {es n:Nat}{l:List AV}(h:Sl es n l v):cellsOf v=[v]:=by
 rcases h with ⟨rfl,_⟩|⟨rfl,_⟩|⟨c,rfl,_⟩ <;> rfl
theorem Yt (e:Env) (hE:EM P e) (h159:Inl e 111 OQ [.tmp 2]) (r:Ring) (hr:r.ok) (v:AV) (hv:LSl r.l.live v) (Q:AV→St→Prop) (k:∀ s,Q (.bool (DX r.l.live)) s):
 VW P e 0 OS (Al [.fp (r.cs v)] 0 .lf) St0 none [] (Cj [.cell 2] Q):=by
 obtain ⟨L,hL⟩:∃ L,L=r.l.live:=⟨_,rfl⟩
 rw [← hL] at hv k
 have hlen:L.length≤1000:=by rw [hL];exact hr.l.len
 conv=>whnf
 refine EHead.mk rfl ?_;conv=>whnf
 refine ESc.inl h159 ?_;conv=>whnf
 refine IN (by show Nat.beq (AR (cellsOf v)) 1=true;rw [hv.cells];rfl) ?_
 rw [hv.cells]
 conv=>whnf
 refine W.abs [(2,.ptr 0 0),(3,.ptr 2 0),(12,.fn 155 [] [.ptr 3 0])] [.row 4 [.bool false],.map [] 0,.row 177 [.map 1],.row 28 [v]] [0,1,2,3] ⟨by decide,⟨r9,r9,r9,trivial⟩,⟨r9,r9,r9,⟨?_,?_⟩,trivial⟩⟩ ?_
 ·show (bd _ v && true)=true;rw [DZ _ hv.hf];rfl
 ·show _=some (AObj.row 28 [Bc _ v]);rw [DF _ hv.hf];rfl
 refine P3 (f:=155) (first:=[]) (cap:=[.ptr 3 0]) g155.b rfl ?_ ?_
 ·intro q hq
  have hq:q<4:=hq
  have n2:Named (At [(2,.ptr 0 0),(3,.ptr 2 0),(12,.fn 155 [] [.ptr 3 0])]) (Ae St0 [.row 4 [.bool false],.map [] 0,.row 177 [.map 1],.row 28 [v]]) 2:=.tmp 3 (.ptr 2 0) rfl rfl
  rcases q with _|_|_|_|q
  ·exact .tmp 2 (.ptr 0 0) rfl rfl
  ·exact .cell 2 177 [.map 1] 0 (.map 1) n2 rfl rfl rfl
  ·exact n2
  ·exact .tmp 12 (.fn 155 [] [.ptr 3 0]) rfl rfl
  ·omega
 show C1 P 155 [.yld 5,.ptr 3 0] (Ae St0 [.row 4 [.bool false],.map [] 0,.row 177 [.map 1],.row 28 [v],.defd,.loop .ready none 0 KA [13,14] M1 Mi 4]) (fun _ s'=>K7 5 [4] KA s' _)
 refine C1.of_G hE g155 ?_;conv=>whnf
 refine Ac rfl hv ?_;conv=>whnf
 repeat' (first|(refine w8 rfl rfl (by omega) ?_;conv=>whnf)|fail)
 refine TK (α:=Nat×List Int×List (AV×AV×Nat)×Nat) (fun x=>[(0,.yld 5),(1,.ptr 3 0),(3,.int .i64 ((x.1:Int)-1))]) (fun x=>[.row 4 [.bool false],.map x.2.2.1 x.2.2.2,.row 177 [.map 1],.row 28 [v],.defd,.loop .ready none 0 KA [13,14] M1 Mi 4]) (fun x=>x.1)
  (fun x=>x.1≤L.length∧KM (.int .i64 1) x.2.2.1 x.2.1∧DX L=IS (L.take x.1).reverse x.2.1) (L.length,[],[],0) [0,1,2,3,4,5] ⟨Zj0 _,KM.nil _,by rw [List.take_length];rfl⟩ ?_ ?_
 ·refine ⟨rfl,by decide,⟨r9,r9,r9,trivial⟩,⟨r9,r9,r9,⟨?_,?_⟩,r9,r9,trivial⟩⟩
  ·show (bd _ v && true)=true;rw [DZ _ hv.hf];rfl
  ·show _=some (AObj.row 28 [Bc _ v]);rw [DF _ hv.hf];rfl
 rintro ⟨j,tk,es,n⟩ ⟨hj,hK,hh⟩
 dsimp only at hj hK hh ⊢
 refine Cz hE ?_;conv=>whnf
 refine DS rfl rfl (fun h=>?_) (fun h=>?_) <;> conv=>whnf
 ·obtain ⟨i,rfl⟩:∃ i,j=i+1:=⟨j-1,by omega⟩
  have hlt:i<L.length:=by omega
  rw [show ((i+1:Nat):Int)-1=(i:Int) by omega]
  refine BZ rfl hv rfl hlt ?_;conv=>whnf
  refine Ay (Ot hlt) ?_
  have hst:DX L=(!In tk L[i] && IS (L.take i).reverse (Hg tk L[i])):=by
   rw [hh,Zjs hlt,List.reverse_append];rfl
  revert hst
  generalize L[i]=x
  obtain ⟨sq,st,bl,pa,su,ho⟩:=x
  intro hst
  conv=>whnf
  refine ERound.mk ?_
  have fin:∀ t s tk' es' n',DX L=IS (L.take i).reverse tk'→KM (.int .i64 1) es' tk'→t.get 0=some (.yld 5)→t.get 1=some (.ptr 3 0)→t.get 3=some (.int .i64 ((i:Int)-1))→s.get 0=some (.row 4 [.bool false])→s.get 1=some (.map es' n')→s.get 2=some (.row 177 [.map 1])→s.get 3=some (.row 28 [v])→s.get 4=some .defd→s.get 5=some (.loop .ready none 0 KA [13,14] M1 Mi 4)→
   ∃ x':Nat×List Int×List (AV×AV×Nat)×Nat,(x'.1≤L.length∧KM (.int .i64 1) x'.2.2.1 x'.2.1∧DX L=IS (L.take x'.1).reverse x'.2.1)∧x'.1<i+1∧∃ rs,AbsK 6 t s [(0,.yld 5),(1,.ptr 3 0),(3,.int .i64 ((x'.1:Int)-1))] [.row 4 [.bool false],.map x'.2.2.1 x'.2.2.2,.row 177 [.map 1],.row 28 [v],.defd,.loop .ready none 0 KA [13,14] M1 Mi 4] rs:=by
   intro t s tk' es' n' hh hK h0 h1 h3 g0 g1 g2 g3 g4 g5
   refine ⟨(i,tk',es',n'),⟨by simp;omega,hK,hh⟩,by simp,[0,1,2,3,4,5],rfl,by decide,⟨⟨rfl,h0⟩,⟨rfl,h1⟩,⟨rfl,h3⟩,trivial⟩,⟨⟨rfl,g0⟩,⟨Ds rfl hK,?_⟩,⟨rfl,g2⟩,⟨?_,?_⟩,⟨rfl,g4⟩,⟨rfl,g5⟩,trivial⟩⟩
   ·show _=some (AObj.map (BI _ es') n');rw [Dq rfl hK];exact g1
   ·show (bd _ v && true)=true;rw [DZ _ hv.hf];rfl
   ·show _=some (AObj.row 28 [Bc _ v]);rw [DF _ hv.hf];exact g3
  cases ho <;> cases pa <;> cases su
  all_goals
   conv=>whnf
   repeat' (first|(refine H0 rfl rfl rfl rfl hK (fun es' n' hK'=>?_);conv=>whnf)|(refine H1 rfl rfl rfl hK (fun hin=>?_) (fun hin=>?_) <;> conv=>whnf)|(refine H1 rfl rfl rfl hK' (fun hin=>?_) (fun hin=>?_) <;> conv=>whnf)|((refine w5 rfl rfl ?_ ?_) <;> intro _ <;> first|(exfalso;omega)|(conv=>whnf))|((first|refine w8 rfl rfl (by omega) ?_|refine w12 rfl ?_|refine w13 rfl ?_|refine ⟨rfl,?_⟩);conv=>whnf)|fail)
  all_goals first
   | (refine fin _ _ tk es n ?_ hK ?_ ?_ ?_ ?_ ?_ ?_ ?_ ?_ ?_ <;> first|rfl|(rw [hst];simp [In,Hg];done))
   | (refine fin _ _ tk es n ?_ hK ?_ ?_ ?_ ?_ ?_ ?_ ?_ ?_ ?_ <;> first|rfl|(rw [hst];simp [In,Hg,hin];done))
   | (refine fin _ _ _ es' n' ?_ hK' ?_ ?_ ?_ ?_ ?_ ?_ ?_ ?_ ?_ <;> first|rfl|(rw [hst];simp [In,Hg,hin];done))
   | ((suffices hF:DX L=false by (rw [hF] at k;exact k _));rw [hst];simp [In,Hg];done)
   | ((suffices hF:DX L=false by (rw [hF] at k;exact k _));rw [hst];simp [In,Hg,hin];done)
 ·have:j=0:=by omega
  subst this
  conv=>whnf
  have hT:DX L=true:=by rw [hh];rfl
  rw [hT] at k
  exact k _
def Gz (_:Ring):Prop:=True
def FI (r:Ring):Prop:=r.c.may
def Mz (r:Ring):AV:=.int .i64 ((EF r.l.live).length:Int)
def IH (r:Ring):AV:=.bool (DX r.l.live)
variable {e:Env}
theorem Y3 (hE:EM P e):OvOk P 208 (Ct Gz Mz):=
 LH g208.b (fun r=>rfl) fun r v hr _ hv=>C.of_G hE g208 (Y1 e hE r hr v hv _ (fun s=>rfl))
theorem Yu (hE:EM P e) (h159:Inl e 111 OQ [.tmp 2]):OvOk P 187 (Ct Gz IH):=
 LH g187.b (fun r=>rfl) fun r v hr _ hv=>C.of_G hE g187 (Yt e hE h159 r hr v hv _ (fun s=>rfl))
theorem WC (k:Int) (l:List Int):(DA k l).length≤l.length+1:=by
 unfold DA;split <;> simp
theorem Wn (l:List Int) (x:Lv):(Jk l x).length≤l.length+1:=by
 unfold Jk
 have:=WC x.stripe l
 split
 ·have h2:=List.length_erase_le (a:=x.stripe) (l:=DA x.stripe l);omega
 ·exact this
theorem Wd (L:List Lv):(EF L).length≤L.length:=by
 unfold EF
 have:∀ (L:List Lv) (l:List Int),(L.foldl Jk l).length≤l.length+L.length:=by
  intro L
  induction L with
  | nil=>intro l;simp
  | cons x L ih=>intro l;have:=ih (Jk l x);have:=Wn l x;simp at *;omega
 simpa using this L []
def Fg (r:Ring):Bool:=decide (r.l.used≤r.c.log) && decide ((r.c.members+1)*((EF r.l.live).length:Int)≤IntKind.i64.wrap (r.c.log-r.l.used))
theorem Zv (hE:EM P e) (h53:Con e 185 needF.O) (h125:Con e 208 (Ct Gz Mz)):OvOk P 188 (Ct FI (fun r=>.bool (Fg r))):=by
 refine LH g188.b (fun r=>rfl) fun r v hr hp hv=>C.of_G hE g188 ?_
 have hd:(EF r.l.live).length≤1000:=Nat.le_trans (Wd _) hr.l.len
 have hM:r.c.may:=hp
 unfold FI Cfg.may at hp
 have hv':=hr.c
 conv=>whnf
 refine Ay rfl ?_;conv=>whnf
 refine ESc.fam needF h53 r.c hv' (u:=.tup [.int .i64 (r.c.members+1),.int .i64 0]) (by simp [needF,hM]) ?_;conv=>whnf
 repeat' (first|(refine EHead.mk rfl ?_;conv=>whnf)|(refine EPrim.sub (q:=.i64) rfl rfl ?_;conv=>whnf)|(refine ESc.ov h125 (LA (RAt.fp hv hr) trivial) ?_;conv=>whnf)|(refine Cl rfl rfl (Do (by omega) (by omega)) ?_;conv=>whnf)|((first|refine w2 rfl rfl ?_ ?_|refine w4 rfl rfl ?_ ?_) <;> intro _ <;> first|(exfalso;omega)|(conv=>whnf))|(refine ⟨rfl,?_⟩;conv=>whnf)|fail)
 all_goals
  show AV.bool _=AV.bool (Fg r)
  unfold Fg
  congr 1
  symm
  simp only [Zjh,Bool.and_eq_false_iff,Zkc,Zkl]
  omega
end Go.AM
namespace Go.AM
attribute [local irreducible] W
open X
def Mh:AC:=match Nj with|.mk c _=>c
def Ui:AC:=match Nr with|.mk c _=>c
theorem L4 (e:Env) (s:St) (n:Int) (K:AV→St→Prop) (h:K (.bool (FH n)) s):VE e Mh (Al [.int .u32 n] 0 .lf) s none [] (Cj [.tmp 2] K):=by
 unfold FH at h
 conv=>whnf
 repeat' (first|((first|refine w2 rfl rfl ?_ ?_|refine w4 rfl rfl ?_ ?_) <;> intro _ <;> first|(exfalso;omega)|(conv=>whnf))|fail)
 ·rw [Zjk (by omega)] at h;exact h
 ·rw [Zjw (by omega)] at h;exact h
 ·rw [Zjw (by omega)] at h;exact h
def Hb (r:Ring) (i:Nat) (sure:Bool) (x:Lv):Prop:=
 x.stripe<0∨r.c.chunk*r.c.rows≤x.stripe∨x.blocks<2∨r.c.members+1<x.blocks∨x.seq=0∨x.seq≠(r.l.seq-((r.l.live.length:Int)-i)) % 4294967296∨(x.sure=true∧sure=false)
instance (r:Ring) (i:Nat) (sure:Bool) (x:Lv):Decidable (Hb r i sure x):=by unfold Hb;infer_instance
def Fe (r:Ring):Nat→Int→Bool→List Lv→Option Int
 | _,u,_,[]=>some u
 | i,u,s,x::l=>if Hb r i s x then none else Fe r (i+1) (u+x.blocks) x.sure l
def Gq (r:Ring):Prop:=FH r.l.age=true∧FH r.l.seq=true∧0≤r.l.tail∧r.l.tail<r.c.log∧(r.l.live.length:Int)≤r.c.log∧r.l.used≤r.c.log
instance (r:Ring):Decidable (Gq r):=by unfold Gq;infer_instance
def DW (r:Ring):Bool:=decide (Gq r) && (match Fe r 0 0 true r.l.live with
 | none=>false
 | some u=>decide (u=r.l.used) && decide ((r.l.live.length:Int)<r.l.seq) && DX r.l.live && Fg r)
theorem Yc (e:Env) (hE:EM P e) (h38:Con e 40 stripesF.O) (h53:Con e 185 needF.O) (h122:Inl e 186 Mh [.tmp 2]) (h123:Con e 187 (Ct Gz IH)) (h81:Con e 188 (Ct FI (fun r=>.bool (Fg r)))) (r:Ring) (hr:r.ok) (hM:r.c.may) (v:AV) (hv:LSl r.l.live v) (Q:AV→St→Prop) (k:∀ s,Q (.bool (DW r)) s):
 VW P e 0 Ui (Al [.fp (r.cs v)] 0 .lf) St0 none [] (Cj [.tmp 2] Q):=by
 have hp:=hM
 unfold Cfg.may at hp
 have hlog:=G6 hM
 have hlen:=hr.l.len
 have kF:DW r=false→∀ s,Q (.bool false) s:=fun h s=>by have:=k s;rw [h] at this;exact this
 have topF:¬ Gq r→∀ s,Q (.bool false) s:=fun h=>kF (by unfold DW;rw [Zjw h];rfl)
 conv=>whnf
 refine Ay rfl ?_;conv=>whnf
 refine ESc.fam stripesF h38 r.c hr.c (u:=.tup [.int .i64 (r.c.chunk*r.c.rows),.int .i64 0]) (by simp [stripesF,hM]) ?_;conv=>whnf
 refine Ay rfl ?_;conv=>whnf
 refine ESc.fam needF h53 r.c hr.c (u:=.tup [.int .i64 (r.c.members+1),.int .i64 0]) (by simp [needF,hM]) ?_;conv=>whnf
 refine EHead.mk rfl ?_;conv=>whnf
 refine ESc.inl h122 (L4 e _ r.l.age _ ?_)
 cases hA:FH r.l.age <;> conv=>whnf
 ·repeat' (first|(refine w13 rfl ?_;conv=>whnf)|fail)
  exact topF (by unfold Gq;rw [hA];simp) _
 repeat' (first|(refine EHead.mk rfl ?_;conv=>whnf)|(refine w12 rfl ?_;conv=>whnf)|fail)
 refine ESc.inl h122 (L4 e _ r.l.seq _ ?_)
 cases hS:FH r.l.seq <;> conv=>whnf
 ·repeat' (first|(refine w13 rfl ?_;conv=>whnf)|fail)
  exact topF (by unfold Gq;rw [hS];simp) _
 repeat' (first|(refine EHead.mk rfl ?_;conv=>whnf)|(refine Ac rfl hv ?_;conv=>whnf)|((first|refine w1 rfl rfl ?_ ?_|refine w3 rfl rfl ?_ ?_|refine w4 rfl rfl ?_ ?_) <;> intro _ <;> first|(exfalso;omega)|(conv=>whnf))|(refine w12 rfl ?_;conv=>whnf)|fail)
 iterate 4 (exact topF (by unfold Gq;omega) _)
 have hT:Gq r:=by unfold Gq;rw [hA,hS];exact ⟨rfl,rfl,by omega,by omega,by omega,by omega⟩
 obtain ⟨L,hL⟩:∃ L,L=r.l.live:=⟨_,rfl⟩
 have hokL:=hr.l.live
 have hB:DW r=(match Fe r 0 0 true L with|none=>false|some u=>decide (u=r.l.used) && decide ((L.length:Int)<r.l.seq) && DX L && Fg r):=by
  unfold DW;rw [Zjk hT,hL];rfl
 rw [← hL] at hlen hv hokL
 refine OZ (α:=Nat×Int×Bool) (fun x=>[(0,.fp (r.cs v)),(3,.int .i64 (r.c.chunk*r.c.rows)),(5,.int .i64 (r.c.members+1)),(7,.int .i64 x.2.1),(8,.bool x.2.2),(95,v),(96,.int .i64 (L.length:Int)),(97,.int .i64 (x.1:Int))]) (fun x=>[]) (fun x=>L.length-x.1)
  (fun x=>x.1≤L.length∧Fe r 0 0 true L=Fe r x.1 x.2.1 x.2.2 (L.drop x.1)∧0≤x.2.1∧x.2.1≤17*(x.1:Int)) (0,0,true) [] ⟨Zjy _,rfl,Int.le_refl _,Int.le_refl _⟩ ⟨by decide,⟨r9,r9,r9,r9,r9,t9 hv.hf,⟨rfl,by rw [hL];rfl⟩,r9,trivial⟩,trivial⟩ ?_
 rintro ⟨i,u,sr⟩ ⟨hi,hI,hu0,hu1⟩
 dsimp only at hi hI hu0 hu1 ⊢
 refine Cz hE ?_;conv=>whnf
 refine Bd rfl rfl (fun h=>?_) (fun h=>?_) <;> conv=>whnf
 ·have hlt:i<L.length:=by omega
  refine BZ rfl hv rfl hlt ?_;conv=>whnf
  have hx6:=Ot hlt
  have hx:=hokL L[i] (Zkg hlt)
  rw [Zj2 hlt] at hI
  revert hI hx hx6
  generalize L[i]=x
  obtain ⟨sq,st,bl,pa,su,ho⟩:=x
  intro hI hx6 hx
  refine Ay (cs:=[.int .u32 sq,.int .i64 st,.int .i64 bl,.bool pa,.bool su,.bool ho]) hx6 ?_
  have bad:Hb r i sr ⟨sq,st,bl,pa,su,ho⟩→∀ s,Q (.bool false) s:=fun h=>kF (by rw [hB,hI];unfold Fe;rw [Zjj h])
  have go:¬ Hb r i sr ⟨sq,st,bl,pa,su,ho⟩→Fe r 0 0 true L=Fe r (i+1) (u+bl) su (L.drop (i+1)):=fun h=>by rw [hI];conv=>lhs;unfold Fe;rw [Zjn h]
  have fin:¬ Hb r i sr ⟨sq,st,bl,pa,su,ho⟩→∀ t s,t.get 0=some (.fp (r.cs v))→t.get 3=some (.int .i64 (r.c.chunk*r.c.rows))→t.get 5=some (.int .i64 (r.c.members+1))→t.get 7=some (.int .i64 (u+bl))→t.get 8=some (.bool su)→t.get 95=some v→t.get 96=some (.int .i64 (L.length:Int))→t.get 97=some (.int .i64 ((i:Int)+1))→
   ∃ x':Nat×Int×Bool,(x'.1≤L.length∧Fe r 0 0 true L=Fe r x'.1 x'.2.1 x'.2.2 (L.drop x'.1)∧0≤x'.2.1∧x'.2.1≤17*(x'.1:Int))∧L.length-x'.1<L.length-i∧∃ rs,Abs t s [(0,.fp (r.cs v)),(3,.int .i64 (r.c.chunk*r.c.rows)),(5,.int .i64 (r.c.members+1)),(7,.int .i64 x'.2.1),(8,.bool x'.2.2),(95,v),(96,.int .i64 (L.length:Int)),(97,.int .i64 (x'.1:Int))] [] rs:=by
   intro hnb t s h0 h3 h5 h7 h8 h95 h96 h97
   have hnb':=hnb
   unfold Hb at hnb'
   dsimp only at hnb'
   refine ⟨(i+1,u+bl,su),⟨hlt,go hnb,by simp;omega,by simp;omega⟩,by simp;omega,[],⟨by decide,⟨⟨rfl,h0⟩,⟨rfl,h3⟩,⟨rfl,h5⟩,⟨rfl,h7⟩,⟨rfl,h8⟩,⟨DZ _ hv.hf,by rw [DF _ hv.hf];exact h95⟩,⟨rfl,h96⟩,⟨rfl,h97⟩,trivial⟩,trivial⟩⟩
  have hsq:0≤sq∧sq<4294967296:=hx.seq
  have hLL:L.length=r.l.live.length:=by rw [hL]
  rw [hL] at hlen hlt hi h
  have hv':=hv
  rw [hL] at hv'
  unfold Hb at bad fin
  dsimp only at bad fin
  conv=>whnf
  repeat' (first|(refine EHead.mk rfl ?_;conv=>whnf)|(refine Ac rfl hv' ?_;conv=>whnf)|((first|refine w1 rfl rfl ?_ ?_|refine w3 rfl rfl ?_ ?_|refine w4 rfl rfl ?_ ?_|refine w5 rfl rfl ?_ ?_|refine w6 rfl rfl ?_ ?_) <;> intro _ <;> first|(exfalso;omega)|(conv=>whnf))|((first|refine w7 rfl rfl (by omega) ?_|refine w8 rfl rfl (by omega) ?_|refine w11 rfl rfl ?_|refine w14 (q':=.u32) rfl (Cr (by omega)) ?_|refine ⟨rfl,?_⟩);conv=>whnf)|(refine w19 rfl ?_ ?_ <;> intro hc <;> (try subst hc) <;> conv=>whnf))
  iterate 6 (refine bad ?_ _;omega)
  ·cases sr
   ·repeat' (first|(refine w13 rfl ?_;conv=>whnf)|fail)
    refine bad ?_ _;simp
   ·repeat' (first|((first|refine w7 rfl rfl (by omega) ?_|refine w12 rfl ?_|refine ⟨rfl,?_⟩);conv=>whnf)|fail)
    refine fin ?_ _ _ ?_ ?_ ?_ ?_ ?_ ?_ ?_ ?_ <;> first|rfl|(simp;omega)
  ·refine fin ?_ _ _ ?_ ?_ ?_ ?_ ?_ ?_ ?_ ?_ <;> first|rfl|(simp;omega)
 ·have hd:L.drop i=[]:=Zkb (by omega)
  rw [hd] at hI
  rw [hI] at hB
  have hBu:DW r=(decide (u=r.l.used) && decide ((L.length:Int)<r.l.seq) && DX L && Fg r):=by rw [hB];rfl
  have hseq:0≤r.l.seq∧r.l.seq<4294967296:=hr.l.seq
  have hRA:∀ s,RAt s (.fp (r.cs v)) r v:=fun s=>RAt.fp (by rw [← hL];exact hv) hr
  repeat' (first|(refine EHead.mk rfl ?_;conv=>whnf)|(refine Ac rfl hv ?_;conv=>whnf)|((first|refine w3 rfl rfl ?_ ?_|refine w5 rfl rfl ?_ ?_) <;> intro _ <;> first|(exfalso;omega)|(conv=>whnf))|(refine w14 (q':=.i64) rfl (i64_in (by omega)) ?_;conv=>whnf)|fail)
  ·refine ESc.ov h123 (LA (hRA _) trivial) ?_
   have hg:IH r=.bool (DX L):=by rw [hL];rfl
   rw [hg]
   cases hH:DX L
   ·conv=>whnf
    exact kF (by rw [hBu,hH];simp) _
   ·conv=>whnf
    refine ESc.ov h81 (LA (hRA _) hM) ?_
    cases hR:Fg r
    ·conv=>whnf
     exact kF (by rw [hBu,hR];simp) _
    ·conv=>whnf
     have hT:DW r=true:=by rw [hBu,hH,hR,Zjk (by omega),Zjk (by omega)];rfl
     rw [hT] at k;exact k _
  ·exact kF (by rw [hBu,Zjw (p:=(L.length:Int)<r.l.seq) (by omega)];simp) _
  ·exact kF (by rw [hBu,Zjw (p:=u=r.l.used) (by omega)];simp) _
variable {e:Env}
theorem Yd (hE:EM P e) (h38:Con e 40 stripesF.O) (h53:Con e 185 needF.O) (h122:Inl e 186 Mh [.tmp 2]) (h123:Con e 187 (Ct Gz IH)) (h81:Con e 188 (Ct FI (fun r=>.bool (Fg r)))):OvOk P 149 (Ct FI (fun r=>.bool (DW r))):=
 LH g149.b (fun r=>rfl) fun r v hr hp hv=>C.of_G hE g149 (Yc e hE h38 h53 h122 h123 h81 r hr hp v hv _ (fun s=>rfl))
structure CL where
 c:Cfg
 l:Log
 v:AV
structure CL.ok (x:CL):Prop where
 c:x.c.ok
 l:x.l.ok
 v:LSl x.l.live x.v
def CL.lv (x:CL):AV:=.agg (x.l.c x.v)
variable {x y:CL}
theorem CL.inj (hx:x.ok) (hy:y.ok) (h1:x.c.v=y.c.v) (h2:x.lv=y.lv):x=y:=by
 obtain ⟨c,⟨a1,a2,a3,a4,a5⟩,v⟩:=x
 obtain ⟨c',⟨b1,b2,b3,b4,b5⟩,v'⟩:=y
 have e1:=GN h1
 dsimp only at e1
 subst e1
 simp [CL.lv,Log.c] at h2
 obtain ⟨rfl,rfl,rfl,rfl,rfl⟩:=h2
 have:=LSl.inj hx.v hy.v
 dsimp only at this
 subst this;rfl
def CL.ring (x:CL):Ring:=⟨x.l,x.c⟩
def CL.good (x:CL):Prop:=x.c.may∧DW x.ring=true
instance (x:CL):Decidable x.good:=by unfold CL.good;infer_instance
theorem YS (h:x.ok):x.ring.ok:=⟨h.l,h.c⟩
def CL.args (x:CL):List AV:=[x.c.v,x.lv]
theorem CL.inja (hx:x.ok) (hy:y.ok) (h:x.args=y.args):x=y:=CL.inj hx hy (Zjr h).1 (Zjr (Zjr h).2).1
def lchkF:Fam CL:=⟨CL.ok,CL.args,fun x=>.int .i64 (if x.good then 0 else 8),fun x y hx hy h=>by rw [CL.inja hx hy h]⟩
theorem CL.hfa (h:x.ok):hfs x.args=true:=by
 show (true && ((true && (true && (true && (true && (AM.hf x.v && true))))) && true))=true
 rw [h.v.hf];rfl
theorem ZG (hE:EM P e) (h78:Con e 103 cfgF.O) (h79:Con e 149 (Ct FI (fun r=>.bool (DW r)))):OvOk P 105 lchkF.O:=by
 refine Ca g105.b ?_
 intro x hx
 refine ⟨CL.hfa hx,rfl,C.of_G hE g105 ?_⟩
 by_cases hM:x.c.may
 ·have hR:∀ (s:St) (q:Nat),s.get q=some (.row 216 (x.ring.cs x.v))→RAt s (.ptr q 0) x.ring x.v:=fun s q h=>
   ⟨.ptr q 0 216 _ _ _ h (fun i y hy=>by rw [Zju];exact hy) (LL (S7 _ hx.v)),hx.v,YS hx⟩
  conv=>whnf
  refine ESc.fam cfgF h78 x.c hx.c (u:=.int .i64 0) (by simp [cfgF,hM]) ?_;conv=>whnf
  repeat' (first|((refine w6 rfl rfl ?_ ?_) <;> intro _ <;> first|(exfalso;omega)|(conv=>whnf))|fail)
  refine ESc.ov h79 (LA (hR _ _ rfl) hM) ?_
  cases hB:DW x.ring
  ·conv=>whnf
   repeat' (first|(refine w13 rfl ?_;conv=>whnf)|fail)
   rw [show lchkF.out x=.int .i64 8 by simp [lchkF,CL.good,hB]]
   exact .plain _ rfl
  ·conv=>whnf
   repeat' (first|(refine w12 rfl ?_;conv=>whnf)|fail)
   rw [show lchkF.out x=.int .i64 0 by simp [lchkF,CL.good,hB,hM]]
   exact .plain _ rfl
 ·rw [show lchkF.out x=.int .i64 8 by simp [lchkF,CL.good,hM]]
  conv=>whnf
  refine ESc.fam cfgF h78 x.c hx.c (u:=.int .i64 8) (by simp [cfgF,hM]) ?_;conv=>whnf
  repeat' (first|((refine w6 rfl rfl ?_ ?_) <;> intro _ <;> first|(exfalso;omega)|(conv=>whnf))|fail)
  exact .plain _ rfl
theorem Zeq (hE:EM P e) {k:Nat}{rd:Option Nat}{a:AC}{t:AT}{s:St}{ds:List Nat}{Q:EQ}(h:VW P e k a t s rd ds (Hv (fun _ _ _=>False) Q)):W P k rd (.loop a) t s ds Q:=by
 refine W.loop (fun n t' s' ds'=>n=0∧t'=t∧s'=s∧ds'=ds) 0 ⟨rfl,rfl,rfl,rfl⟩ ?_
 rintro n t' s' ds' ⟨rfl,rfl,rfl,rfl⟩
 refine (Cz hE h).mono ?_
 intro x t s ds hq
 cases x with
 | normal=>exact (show False from hq).elim
 | exit id=>exact hq
 | ret=>exact hq
section
variable {t:AT}{s:St}{k:AV→St→Prop}{x y:AO}
variable {el es r:Nat}{v:AV}
theorem G9 (hx:ev x t=.some (.sl r 0 0 (some 0))) (hy:ev y t=.some v) (hv:EG es v s=some []) (hk:k (.sl r 0 0 (some 0)) s):EPrim (.app el es x y) t s k:=by
 refine EPrim.mk (fun e rec=>?_) hk
 show wth x t _=_;unfold wth;rw [hx]
 show wth y t _=_;unfold wth;rw [hy]
 show (Option.rec .fail _ (EG es v s):RV)=_
 rw [hv];rfl
theorem EPrim.app1 {m:Nat}{c:AV}{cs:List AV}(hx:ev x t=.some (.sl r 0 0 (some 0))) (hy:ev y t=.some v) (hv:EG es v s=some (c::cs)) (hr:s.get r=some (.row el [])) (hm:(c::cs).length / es=m) (h0:0<m) (h1:m≤1000000) (hk:k (.sl s.next 0 m none) (s.alloc (.row el (c::cs)))):EPrim (.app el es x y) t s k:=by
 refine EPrim.mk (fun e rec=>?_) hk
 show wth x t _=_;unfold wth;rw [hx]
 show wth y t _=_;unfold wth;rw [hy]
 show (Option.rec .fail _ (EG es v s):RV)=_
 rw [hv]
 show AM.app1 el es (c::cs) (Nat.div (AR (c::cs)) es) r 0 0 (some 0) s=_
 unfold AM.app1
 rw [E7,show Nat.div (c::cs).length es=m from hm,show Nat.mul 0 es=0 from Nat.zero_mul es,Kl hr (by simp)]
 show (Bool.rec (Cn el (0+m) (AY [] (c::cs)) s) _ (Nat.ble (0+m) 0):RV)=_
 rw [Zju,show Nat.ble m 0=false by rw [← Zle];intro e;have:=Zj3 e;omega]
 show gd (Nat.ble m 1000000) _=_
 rw [Zj6 h1];rfl
end
variable {t:AT}{s:St}{k:AV→St→Prop}{x y:AO}
theorem Gh {v:AV}(hx:ev x t=.some v) (hy:ev y t=.some .nils) (h:v=.es∨∃ n c l,v=.fz n c l) (hk:k (.bool false) s):EPrim (.eqb 2 false x y) t s k:=by
 refine EPrim.mk (v:=.bool false) (s':=s) (fun e rec=>?_) hk
 show wth x t _=_;unfold wth;rw [hx]
 show wth y t _=_;unfold wth;rw [hy]
 rcases h with rfl|⟨n,c,l,rfl⟩ <;> rfl
theorem Mf (hx:ev x t=.some .nils) (hy:ev y t=.some .nils) (hk:k (.bool true) s):EPrim (.eqb 2 false x y) t s k:=by
 refine EPrim.mk (v:=.bool true) (s':=s) (fun e rec=>?_) hk
 show wth x t _=_;unfold wth;rw [hx]
 show wth y t _=_;unfold wth;rw [hy];rfl
end Go.AM
namespace Go.AM
attribute [local irreducible] W
open X
def Je:Ov:=fun args s=>match args with
 | []=>.ok (.bool true) s
 | _=>.fail
theorem Zg {e:Env}{f k:Nat}(hE:EM P e) (hb:Fd P f) (h:Pn (BW e (exec e k) f [] St0)=true):OvOk P f Je:=by
 refine ⟨hb,fun args s v s' hh=>?_⟩
 unfold Je at hh
 split at hh
 ·cases hh
  refine Uu rfl rfl ?_ s
  obtain ⟨s1,h⟩:=Yr h
  intro γ vals w m hA hs
  have hc:=(Lz (RX hE.1 hE.2 k) hE.1 hA hs h).2 m
  exact CallsIn.mono hc fun e w' hp=>⟨_,_,.plain _ rfl,hp⟩
 ·cases hh
end Go.AM
namespace Go.AM
open Go.RowKit
variable {n:Int}
theorem Cq (h:(Lit.int .i64 n).wf=true):Ad n:=by
 unfold Ad
 simp [Lit.wf,IntKind.min,IntKind.max,IntKind.bits,IntKind.signed] at h
 omega
theorem HJ (h:(Lit.int .u32 n).wf=true):Bm n:=by
 unfold Bm
 simp [Lit.wf,IntKind.min,IntKind.max,IntKind.bits,IntKind.signed] at h
 omega
def tCfg:List Ty:=[.int .u32,.int .i64,.int .i64,.int .i64,.int .i64,.int .i64]
def tLv:List Ty:=[.int .u32,.int .i64,.int .i64,.bool,.bool,.bool]
def tLog:List Ty:=[.int .u32,.int .u32,.int .i64,.int .i64,.sl (.st tLv)]
variable {k:IntKind}{l:List AV}
theorem XX (h:Shape (.int k) l):∃ n,l=[.int k n]∧(Lit.int k n).wf=true:=by
 cases h with|int _ n h=>exact ⟨n,rfl,h⟩
theorem WQ (h:Shape .bool l):∃ b,l=[.bool b]:=by
 cases h with|bool b=>exact ⟨b,rfl⟩
variable {Ts:List Ty}
theorem Lw {T:Ty}(h:Shapes (T::Ts) l):∃ a b,l=a++b∧Shape T a∧Shapes Ts b:=by
 cases h with|cons _ _ a b h1 h2=>exact ⟨a,b,rfl,h1,h2⟩
theorem NI (h:Shapes [] l):l=[]:=by cases h;rfl
theorem FU (h:Shapes (.int k::Ts) l):∃ n b,l=.int k n::b∧(Lit.int k n).wf=true∧Shapes Ts b:=by
 obtain ⟨a,b,rfl,h1,h2⟩:=Lw h
 obtain ⟨n,rfl,hw⟩:=XX h1
 exact ⟨n,b,rfl,hw,h2⟩
theorem NG (h:Shapes (.bool::Ts) l):∃ x b,l=.bool x::b∧Shapes Ts b:=by
 obtain ⟨a,b,rfl,h1,h2⟩:=Lw h
 obtain ⟨n,rfl⟩:=WQ h1
 exact ⟨n,b,rfl,h2⟩
theorem Zhl (h:Shapes tCfg l):∃ c:Cfg,c.ok∧l=c.c:=by
 obtain ⟨a1,b1,rfl,w1,g1⟩:=FU h
 obtain ⟨a2,b2,rfl,w2,g2⟩:=FU g1
 obtain ⟨a3,b3,rfl,w3,g3⟩:=FU g2
 obtain ⟨a4,b4,rfl,w4,g4⟩:=FU g3
 obtain ⟨a5,b5,rfl,w5,g5⟩:=FU g4
 obtain ⟨a6,b6,rfl,w6,g6⟩:=FU g5
 rw [NI g6]
 exact ⟨⟨a1,a2,a3,a4,a5,a6⟩,⟨HJ w1,Cq w2,Cq w3,Cq w4,Cq w5,Cq w6⟩,rfl⟩
theorem Zij (h:Shapes tLv l):∃ x:Lv,x.ok∧l=x.c:=by
 obtain ⟨a1,b1,rfl,w1,g1⟩:=FU h
 obtain ⟨a2,b2,rfl,w2,g2⟩:=FU g1
 obtain ⟨a3,b3,rfl,w3,g3⟩:=FU g2
 obtain ⟨a4,b4,rfl,g4⟩:=NG g3
 obtain ⟨a5,b5,rfl,g5⟩:=NG g4
 obtain ⟨a6,b6,rfl,g6⟩:=NG g5
 rw [NI g6]
 exact ⟨⟨a1,a2,a3,a4,a5,a6⟩,⟨HJ w1,Cq w2,Cq w3⟩,rfl⟩
theorem arg_struct {H:Type}{enc:TypeId×Value→H}{W:World}{t:TypeId}{Fs:List Ty}{n:Nat}{v:Value}{d:DataW H}{ps:List MemPlace}{fs:Array Field}{r:Reach}{base:Nat}(hu:P.underlying t=some (.struct fs)) (hT:TyOf P t (.st Fs) n) (hval:Value.okWide P W r base t v) (h:DataW.Trod enc P W 0 (fun _=>true) true t v d ps):
 ∃ l,Shapes Fs l∧VR (EP W) (.agg l) v:=by
 obtain ⟨cs,rfl,_⟩:=WideShapes.okWide_struct hu hval
 obtain ⟨fuel,hf⟩:=h
 obtain ⟨l,h1,h2,h3,h4⟩:=Ry fuel hT hf
 cases h1 with
 | st _ _ hs=>exact ⟨l,hs,.agg l cs h3 h4⟩
theorem law_args {f:Nat}{args:List AV}{vals:List Value}{w:World}(hA:All2 (VR (EP w)) args vals) (hC:C P f args St0 (fun v _=>v=.bool true)):
 Calls P f vals.toArray w fun x w'=>x=.returned (.bool true)∧Below w.heap.size w w':=by
 have hc:=hC (EP w) vals w 0 hA (ZQ w)
 refine callsIn_wide.1 (CallsIn.mono hc ?_)
 rintro x w' ⟨v,s',rfl,v',γ',rfl,hst,_,hv⟩
 cases hv
 exact ⟨rfl,hst.os,hst.tape,hst.output,hst.size,fun b hb=>hst.blk b hb (fun r L hL=>by cases hL)⟩
end Go.AM
namespace Go.AM
attribute [local irreducible] W
open X
structure I3 where
 a:Int
 b:Int
 c:Int
def I3.ok (x:I3):Prop:=Ad x.a∧Ad x.b∧Ad x.c
def I3.args (x:I3):List AV:=[.int .i64 x.a,.int .i64 x.b,.int .i64 x.c]
def AP (n:Nat):Bool:=decide (n≠0) && decide (n≠128)
structure BN where
 v:AV
 n:Nat
def BN.ok (x:BN):Prop:=(∃ l,Sl 1 x.n l x.v)∧x.n<1000000000
variable {es m:Nat}{l k:List AV}
theorem Sl.n_inj {n:Nat}{v:AV}(h:Sl es n l v) (h':Sl es m k v):n=m:=by
 rcases h with ⟨rfl,rfl,_⟩|⟨rfl,rfl,_⟩|⟨c,rfl,_⟩
 ·rcases h' with ⟨_,rfl,_⟩|⟨e,_⟩|⟨c,e,_⟩
  ·rfl
  ·cases e
  ·cases e
 ·rcases h' with ⟨e,_⟩|⟨_,rfl,_⟩|⟨c,e,_⟩
  ·cases e
  ·rfl
  ·cases e
 ·rcases h' with ⟨e,_⟩|⟨e,_⟩|⟨c,e,_⟩
  ·cases e
  ·cases e
  ·cases e;rfl
theorem BN.inj {x y:BN}(hx:x.ok) (hy:y.ok) (h:[x.v]=[y.v]):x=y:=by
 obtain ⟨v,n⟩:=x
 obtain ⟨v',n'⟩:=y
 have e:v=v':=(Zjr h).1
 subst e
 obtain ⟨⟨l,h1⟩,_⟩:=hx
 obtain ⟨⟨l',h2⟩,_⟩:=hy
 have:=h1.n_inj h2
 dsimp only at this
 rw [this]
def oddF:Fam BN:=⟨BN.ok,fun x=>[x.v],fun x=>.bool (AP x.n),fun x y hx hy h=>by rw [BN.inj hx hy h]⟩
structure BL where
 v:AV
 us:List AV
 ns:List Nat
structure BL.ok (x:BL):Prop where
 sl:Sl 1 x.us.length x.us x.v
 bl:All2 (fun u n=>BN.ok ⟨u,n⟩) x.us x.ns
 len:x.us.length<1000000000
theorem BL.inj {x y:BL}(hx:x.ok) (hy:y.ok) (h:x.v=y.v):x=y:=by
 obtain ⟨v,us,ns⟩:=x
 obtain ⟨v',us',ns'⟩:=y
 have e:v=v':=h
 subst e
 have h1:=hx.sl
 have h2:=hy.sl
 have h3:=hx.bl
 have h4:=hy.bl
 dsimp only at h1 h2 h3 h4
 have e2:us=us':=by
  rcases h1 with ⟨rfl,_,h1⟩|⟨rfl,_,h1⟩|⟨c,rfl,_⟩
  ·rcases h2 with ⟨_,_,h2⟩|⟨e,_⟩|⟨c,e,_⟩
   ·rw [h1,h2]
   ·cases e
   ·cases e
  ·rcases h2 with ⟨e,_⟩|⟨_,_,h2⟩|⟨c,e,_⟩
   ·cases e
   ·rw [h1,h2]
   ·cases e
  ·rcases h2 with ⟨e,_⟩|⟨e,_⟩|⟨c,e,_⟩
   ·cases e
   ·cases e
   ·injection e
 subst e2
 have:∀ {us:List AV}{ns ns':List Nat},All2 (fun u n=>BN.ok ⟨u,n⟩) us ns→All2 (fun u n=>BN.ok ⟨u,n⟩) us ns'→ns=ns':=by
  intro us
  induction us with
  | nil=>intro ns ns' a b;cases a;cases b;rfl
  | cons u us ih=>
   intro ns ns' a b
   cases a with
   | cons a1 a2=>cases b with
    | cons b1 b2=>
     obtain ⟨⟨l,q1⟩,_⟩:=a1
     obtain ⟨⟨l',q2⟩,_⟩:=b1
     have e:=q1.n_inj q2
     dsimp only at e
     rw [ih a2 b2,e]
 rw [this h3 h4]
def Zd3:AC:=match Nv with|.mk c _=>c
def Uh:AC:=match Lj with|.mk c _=>c
def Qd (l:List Int):List AV:=l.map (AV.int .i64)
def Ux (top:Int):Int→List Int→Bool
 | _,[]=>true
 | last,s::l=>decide (last<s∧s≤top) && Ux top s l
structure SL where
 c:Cfg
 v:AV
 l:List Int
structure SL.ok (x:SL):Prop where
 c:x.c.ok
 m:x.c.may
 sl:Sl 1 x.l.length (Qd x.l) x.v
 b:∀ s ∈ x.l,Ad s
 len:x.l.length<1000000000
theorem Sl.l_inj {n:Nat}{v:AV}(h:Sl es n l v) (h':Sl es m k v):l=k:=by
 rcases h with ⟨rfl,_,h⟩|⟨rfl,_,h⟩|⟨c,rfl,_⟩
 ·rcases h' with ⟨_,_,h2⟩|⟨e,_⟩|⟨c,e,_⟩
  ·rw [h,h2]
  ·cases e
  ·cases e
 ·rcases h' with ⟨e,_⟩|⟨_,_,h2⟩|⟨c,e,_⟩
  ·cases e
  ·rw [h,h2]
  ·cases e
 ·rcases h' with ⟨e,_⟩|⟨e,_⟩|⟨c,e,_⟩
  ·cases e
  ·cases e
  ·injection e
def Zbi (top:Int) (l:List Int):Bool:=Ux top (-1) l && decide (0<l.length)
structure Dl where
 stripe:Int
 sv:AV
 sl:List Int
 b:BL
 pv:AV
 pn:Nat
def Dl.c (d:Dl):List AV:=[.int .i64 d.stripe,d.sv,d.b.v,d.pv]
def Dl.v (d:Dl):AV:=.agg d.c
structure Dl.ok (d:Dl):Prop where
 stripe:Ad d.stripe
 sl:Sl 1 d.sl.length (Qd d.sl) d.sv
 sb:∀ s ∈ d.sl,Ad s
 sn:d.sl.length<1000000000
 b:d.b.ok
 p:BN.ok ⟨d.pv,d.pn⟩
def Ziy (c:Cfg) (d:Dl):Bool:=!(d.b.ns.any AP) && decide (0≤d.stripe∧d.stripe<c.chunk*c.rows) && Zbi (c.members-2) d.sl && decide (d.b.ns.length=d.sl.length) && !(AP d.pn)
structure CD where
 c:Cfg
 d:Dl
structure CD.ok (x:CD):Prop where
 c:x.c.ok
 d:x.d.ok
def CD.good (x:CD):Prop:=x.c.may∧Ziy x.c x.d=true
instance (x:CD):Decidable x.good:=by unfold CD.good;infer_instance
structure Rc where
 slot:Int
 bare:Bool
 sum:Int
def Rc.c (x:Rc):List AV:=[.int .u8 x.slot,.bool x.bare,.int .u32 x.sum]
def Rc.ok (x:Rc):Prop:=(0≤x.slot∧x.slot<256)∧Bm x.sum
def rcs (L:List Rc):List AV:=L.flatMap Rc.c
structure Nt where
 id:Int
 age:Int
 seq:Int
 stripe:Int
 v:AV
 recs:List Rc
def Nt.c (x:Nt):List AV:=[.int .u32 x.id,.int .u32 x.age,.int .u32 x.seq,.int .i64 x.stripe,x.v]
def Nt.a (x:Nt):AV:=.agg x.c
structure Nt.ok (x:Nt):Prop where
 id:Bm x.id
 age:Bm x.age
 seq:Bm x.seq
 stripe:Ad x.stripe
 sl:Sl 3 x.recs.length (rcs x.recs) x.v
 rc:∀ r ∈ x.recs,r.ok
 len:x.recs.length<1000000000
theorem R0 {bs:List Nat}(hl:bs.length=0∨bs.length=128):(As bs).length=128:=by
 unfold As
 split
 ·simp
 ·rename_i h
  rcases hl with e|e
  ·exact absurd (Zkd.1 e) h
  ·exact e
theorem TD:∀ {l m:List Nat},Aj l=Aj m→l=m
 | [],[],_=>rfl
 | [],_::_,h=>by cases h
 | _::_,[],h=>by cases h
 | a::l,b::m,h=>by
  have h:AV.int .u8 (Int.ofNat a)::Aj l=.int .u8 (Int.ofNat b)::Aj m:=h
  injection h with h1 h2
  injection h1 with _ h1
  injection h1 with h1
  rw [h1,TD h2]
def BAt (u:AV) (b:List Nat):Prop:=Sl 1 b.length (Aj b) u∧∀ x ∈ b,x<256
theorem BAt.inj {u:AV}{b c:List Nat}(h:BAt u b) (h':BAt u c):b=c:=TD (h.1.l_inj h'.1)
structure DB where
 st:Int
 sv:AV
 sl:List Int
 bv:AV
 us:List AV
 bs:List (List Nat)
 pv:AV
 pb:List Nat
def DB.d (x:DB):Dl:=⟨x.st,x.sv,x.sl,⟨x.bv,x.us,x.bs.map List.length⟩,x.pv,x.pb.length⟩
structure DB.ok (x:DB):Prop where
 d:x.d.ok
 bs:All2 BAt x.us x.bs
 pb:BAt x.pv x.pb
def Am (b:List Nat):AV:=.fz 128 none (Aj b)
def DB.prs (x:DB):List (Int×List Nat):=x.sl.zip x.bs++(if x.pb.length=0 then [] else [(255,x.pb)])
structure BD where
 c:Cfg
 age:Int
 seq:Int
 d:DB
structure BD.ok (x:BD):Prop where
 c:x.c.ok
 age:Bm x.age
 seq:Bm x.seq
 d:x.d.ok
def BD.enc (x:BD):List AV:=[x.c.v,.int .u32 x.age,.int .u32 x.seq,x.d.d.v]
variable {L:List AV}{x:AV}
theorem GD {ρ:Nat→Nat}(h:hfs L=true):Ba ρ (L++[x])=L++[Bc ρ x]:=by
 induction L with
 | nil=>rfl
 | cons y L ih=>
  simp only [hfs,Zjh] at h
  show Bc ρ y::Ba ρ (L++[x])=_
  rw [DF y h.1,ih h.2];rfl
theorem GQ {n:Nat}(h:hfs L=true):Bq n (L++[x])=bd n x:=by
 induction L with
 | nil=>show (bd n x && true)=_;rw [Bool.and_true]
 | cons y L ih=>
  simp only [hfs,Zjh] at h
  show (bd n y && Bq n (L++[x]))=_
  rw [DZ y h.1,ih h.2];rfl
def DB.n (d:DB):Nat:=d.prs.length+1
structure DB.any (x:DB):Prop where
 st:Ad x.st
 sl:Sl 1 x.sl.length (Qd x.sl) x.sv
 sb:∀ s ∈ x.sl,Ad s
 bl:Sl 1 x.us.length x.us x.bv
 bs:All2 BAt x.us x.bs
 pb:BAt x.pv x.pb
end Go.AM
namespace Go.AM
open Go.RowKit
def Zia:Ty:=.sl (.int .i64)
def tByt:Ty:=.sl (.int .u8)
def tDeal:List Ty:=[.int .i64,Zia,.sl tByt,tByt]
theorem Zh2 {n:Int}(h:(Lit.int .u8 n).wf=true):0≤n∧n<256:=by
 simp [Lit.wf,IntKind.min,IntKind.max,IntKind.bits,IntKind.signed] at h
 omega
end Go.AM
namespace Go.AM
open X
variable {l:List AV}
theorem HE {m:List AV}(h:hfs l=true) (h':hfs m=true):hfs (l++m)=true:=hfs_iff.2 fun v hv=>(Zj7.1 hv).elim (hfs_iff.1 h v) (hfs_iff.1 h' v)
structure Ce (α:Type) where
 k:Nat
 r:α→List AV→Prop
 len:∀ {x l},r x l→l.length=k
 hf:∀ {x l},r x l→hfs l=true
 inj:∀ {x y l},r x l→r y l→x=y
def Ce.int (q:IntKind):Ce Int:=⟨1,fun n l=>l=[.int q n]∧(Lit.int q n).wf=true,by rintro _ _ ⟨rfl,_⟩;rfl,by rintro _ _ ⟨rfl,_⟩;rfl,by rintro _ _ _ ⟨rfl,_⟩ ⟨h,_⟩;cases h;rfl⟩
def Ce.u8:Ce Nat:=⟨1,fun n l=>l=[.int .u8 (n:Int)]∧n<256,by rintro _ _ ⟨rfl,_⟩;rfl,by rintro _ _ ⟨rfl,_⟩;rfl,by rintro x y _ ⟨rfl,_⟩ ⟨h,_⟩;injection h with h;injection h with _ h;exact Int.ofNat.inj h⟩
def Ce.bool:Ce Bool:=⟨1,fun n l=>l=[.bool n],by rintro _ _ rfl;rfl,by rintro _ _ rfl;rfl,by rintro _ _ _ rfl h;cases h;rfl⟩
theorem LM {α:Type}{A:Ce α}:∀ {xs:List α}{ls:List (List AV)},All2 A.r xs ls→ls.flatten.length=xs.length*A.k
 | [],_,h=>by cases h;simp
 | x::xs,_,h=>by
  cases h with
  | cons h1 h2=>rw [List.flatten_cons,Zjt,A.len h1,LM h2,Zj9,Nat.add_mul];omega
theorem SF {α:Type}{A:Ce α}:∀ {xs ys:List α}{ls ms:List (List AV)},xs.length=ys.length→All2 A.r xs ls→All2 A.r ys ms→ls.flatten=ms.flatten→xs=ys
 | [],[],_,_,_,_,_,_=>rfl
 | x::xs,y::ys,_,_,hn,h,h',he=>by
  cases h with
  | cons h1 h2=>cases h' with
   | cons h3 h4=>
    rw [List.flatten_cons,List.flatten_cons] at he
    obtain ⟨e1,e2⟩:=List.append_inj he (by rw [A.len h1,A.len h3])
    subst e1
    rw [A.inj h1 h3,SF (Nat.succ.inj hn) h2 h4 e2]
 | [],_::_,_,_,hn,_,_,_=>by cases hn
 | _::_,[],_,_,hn,_,_,_=>by cases hn
def Ls {α:Type}(A:Ce α) (xs:List α) (v:AV):Prop:=∃ ls,All2 A.r xs ls∧Sl A.k xs.length ls.flatten v∧xs.length≤9223372036854775807
theorem Ls.inj {α:Type}{A:Ce α}{xs ys:List α}{v:AV}(h:Ls A xs v) (h':Ls A ys v):xs=ys:=by
 obtain ⟨ls,a,b,_⟩:=h
 obtain ⟨ms,c,d,_⟩:=h'
 exact SF (b.n_inj d) a c (b.l_inj d)
theorem Ls.hf {α:Type}{A:Ce α}{xs:List α}{v:AV}(h:Ls A xs v):AM.hf v=true:=by obtain ⟨_,_,h,_⟩:=h;exact h.hf
theorem Ls.nth {α:Type}{A:Ce α}{xs:List α}{v:AV}(h:Ls A xs v):∃ cs,Sl A.k xs.length cs v∧xs.length≤9223372036854775807∧∀ i,i<xs.length→∃ x c l,xs[i]?=some x∧A.r x c∧cs.drop (i*A.k)=c++l:=by
 obtain ⟨ls,a,b,hb⟩:=h
 refine ⟨_,b,hb,fun i hi=>?_⟩
 obtain ⟨c,h1,h2⟩:=a.get (Zjf hi)
 have ht:=LM (a.take i)
 rw [Zj5,Nat.min_eq_left (Nat.le_of_lt hi)] at ht
 have hl:i<ls.length:=(Zjg.1 h1).1
 have hc:ls[i]=c:=(Zjg.1 h1).2
 refine ⟨_,c,(ls.drop (i+1)).flatten,Zjf hi,h2,?_⟩
 conv=>lhs;rw [← List.take_append_drop i ls,List.flatten_append,← ht,List.drop_left,Zj2 hl,List.flatten_cons,hc]
def Ce.sl {α:Type}(A:Ce α):Ce (List α):=⟨1,fun xs l=>∃ v,l=[v]∧Ls A xs v,by rintro _ _ ⟨v,rfl,_⟩;rfl,by rintro _ _ ⟨v,rfl,h⟩;show (AM.hf v && true)=true;rw [h.hf];rfl,by
 rintro x y _ ⟨v,rfl,h⟩ ⟨u,e,h'⟩
 injection e with e _;subst e
 exact h.inj h'⟩
def Ce.pr {α β:Type}(A:Ce α) (B:Ce β):Ce (α×β):=⟨A.k+B.k,fun x l=>∃ a b,l=a++b∧A.r x.1 a∧B.r x.2 b,by rintro _ _ ⟨a,b,rfl,h,h'⟩;rw [Zjt,A.len h,B.len h'],by rintro _ _ ⟨a,b,rfl,h,h'⟩;exact HE (A.hf h) (B.hf h'),by
 rintro ⟨x,x'⟩ ⟨y,y'⟩ _ ⟨a,b,rfl,h1,h2⟩ ⟨c,d,e,h3,h4⟩
 obtain ⟨rfl,rfl⟩:=List.append_inj e (by rw [A.len h1,A.len h3])
 have e1:=A.inj h1 h3
 have e2:=B.inj h2 h4
 dsimp only at e1 e2
 rw [e1,e2]⟩
def Ce.Of {α:Type}(A:Ce α) (T:Ty):Prop:=∀ l,Shape T l→∃ x,A.r x l
theorem D4 (q:IntKind):(Ce.int q).Of (.int q):=fun l h=>by cases h with|int _ n h=>exact ⟨n,rfl,h⟩
theorem GB:Ce.bool.Of .bool:=fun l h=>by cases h with|bool b=>exact ⟨b,rfl⟩
theorem O1:Ce.u8.Of (.int .u8):=fun l h=>by
 cases h with|int _ n h=>
  have:=Zh2 h
  exact ⟨n.toNat,by rw [Int.toNat_of_nonneg this.1],by omega⟩
theorem Ga {α:Type}{A:Ce α}{T:Ty}(hA:A.Of T):A.sl.Of (.sl T):=fun l h=>by
 cases h with
 | nil _=>exact ⟨[],_,rfl,[],.nil,.inl ⟨rfl,rfl,rfl⟩,by simp⟩
 | es _=>exact ⟨[],_,rfl,[],.nil,.inr (.inl ⟨rfl,rfl,rfl⟩),by simp⟩
 | fz _ n m c ls h1 h2 h3 h4 h5=>
  have:∀ ls:List (List AV),(∀ l ∈ ls,Shape T l)→∃ xs,All2 A.r xs ls:=by
   intro ls
   induction ls with
   | nil=>intro _;exact ⟨[],.nil⟩
   | cons l ls ih=>
    intro h
    obtain ⟨xs,hx⟩:=ih fun m hm=>h m (by simp [hm])
    obtain ⟨x,h1⟩:=hA l (h l (by simp))
    exact ⟨x::xs,.cons h1 hx⟩
  obtain ⟨xs,hx⟩:=this ls h4
  have:=hx.length
  exact ⟨xs,_,rfl,ls,hx,.inr (.inr ⟨c,by rw [this,h1],LM hx⟩),by rw [this,h1];exact h3⟩
structure Sg (γ:Type) where
 r:γ→List AV→Prop
 hf:∀ {x l},r x l→hfs l=true
 inj:∀ {x y l},r x l→r y l→x=y
def Sg.nil:Sg Unit:=⟨fun _ l=>l=[],by rintro _ _ rfl;rfl,fun _ _=>rfl⟩
def Sg.v {α γ:Type}(A:Ce α) (S:Sg γ):Sg (α×γ):=⟨fun x l=>∃ v b,l=v::b∧A.r x.1 [v]∧S.r x.2 b,by
 rintro _ _ ⟨v,b,rfl,h,h'⟩
 have h1:=A.hf h
 show (AM.hf v && hfs b)=true
 rw [S.hf h',show AM.hf v=true by simpa [hfs] using h1];rfl,by
 rintro ⟨x,x'⟩ ⟨y,y'⟩ _ ⟨a,b,rfl,h1,h2⟩ ⟨c,d,e,h3,h4⟩
 cases e
 have e1:=A.inj h1 h3
 have e2:=S.inj h2 h4
 dsimp only at e1 e2
 rw [e1,e2]⟩
def Sg.g {α γ:Type}(A:Ce α) (S:Sg γ):Sg (α×γ):=⟨fun x l=>∃ c b,l=.agg c::b∧A.r x.1 c∧S.r x.2 b,by
 rintro _ _ ⟨v,b,rfl,h,h'⟩
 show (hfs v && hfs b)=true
 rw [S.hf h',A.hf h];rfl,by
 rintro ⟨x,x'⟩ ⟨y,y'⟩ _ ⟨a,b,rfl,h1,h2⟩ ⟨c,d,e,h3,h4⟩
 cases e
 have e1:=A.inj h1 h3
 have e2:=S.inj h2 h4
 dsimp only at e1 e2
 rw [e1,e2]⟩
structure Fn (γ:Type) where
 S:Sg γ
 ok:γ→Prop
 out:γ→AV
def Fn.R {γ:Type}(F:Fn γ) (args:List AV) (u:AV):Prop:=∃ x,F.S.r x args∧F.ok x∧u=F.out x
noncomputable abbrev Fn.O {γ:Type}(F:Fn γ):Ov:=Bx F.R
variable {f:Nat}
theorem B2 {γ:Type}{F:Fn γ}(hb:Fd P f) (h:∀ x args,F.S.r x args→F.ok x→AM.hf (F.out x)=true∧C P f args St0 (fun v s'=>Frz s' v (F.out x))):OvOk P f F.O:=
 Kh hb fun args u ⟨x,h1,h2,e⟩=>by subst e;exact ⟨F.S.hf h1,h x args h1 h2⟩
theorem Fn.u {γ:Type}{e:Env}{f:Nat}{s:St}{k:AV→St→Prop}{F:Fn γ}{args:List AV}(hi:Con e f F.O) (x:γ) (h1:F.S.r x args) (h2:F.ok x) (hk:k (F.out x) s):ESc e f args s k:=by
 refine ESc.rel hi ⟨_,x,h1,h2,rfl⟩ ?_
 rintro u' ⟨y,g1,_,rfl⟩
 rw [F.S.inj g1 h1];exact hk
noncomputable def pB (p:Prop):AV:=.bool (open Classical in decide p)
variable {p:Prop}{s:St}
theorem pT (h:p):Frz s (.bool true) (pB p):=by classical unfold pB;rw [Zjk h];exact .plain _ rfl
theorem pF (h:¬p):Frz s (.bool false) (pB p):=by classical unfold pB;rw [Zjw h];exact .plain _ rfl
noncomputable def bF {γ:Type}(S:Sg γ) (ok p:γ→Prop):Fn γ:=⟨S,ok,fun x=>pB (p x)⟩
variable {e:Env}
theorem Bl {γ:Type}{S:Sg γ}{ok p:γ→Prop}{fn:Func}{code:AC}{res:List ARes}(hE:EM P e) (g:GK f fn (.mk code res)) (h:∀ x args,S.r x args→ok x→∀ K:AV→St→Prop,(p x→∀ s,K (.bool true) s)→(¬p x→∀ s,K (.bool false) s)→VW P e 0 code (Al args 0 .lf) St0 none [] (Cj res K)):OvOk P f (bF S ok p).O:=
 B2 g.b fun x args h1 h2=>⟨rfl,C.of_G hE g (h x args h1 h2 _ (fun q _=>pT q) fun q _=>pF q)⟩
theorem bF.u {γ:Type}{S:Sg γ}{ok p:γ→Prop}{e:Env}{f:Nat}{s:St}{k:AV→St→Prop}{args:List AV}(hi:Con e f (bF S ok p).O) (x:γ) (h1:S.r x args) (h2:ok x) (ht:p x→k (.bool true) s) (hf:¬p x→k (.bool false) s):ESc e f args s k:=by
 classical
 refine Fn.u hi x h1 h2 ?_
 show k (pB (p x)) s
 unfold pB
 by_cases h:p x
 ·rw [Zjk h];exact ht h
 ·rw [Zjw h];exact hf h
variable {t:AT}
theorem A0 (hE:EM P e) {k:Nat}{rd:Option Nat}{ac:AC}{Q:EQ}(n:Nat) (tl:Nat→List (Nat×AV)) (os:Nat→List AObj) (I:Nat→Prop) (h0:I 0) (ha:Tells P k t s [] (At (tl 0)) (Ae St0 (os 0)) [])
 (hr:∀ i,i≤n→I i→VW P e k ac (At (tl i)) (Ae St0 (os i)) rd [] (Ho (fun t s ds=>ds=[]∧i<n∧I (i+1)∧Tells P k t s [] (At (tl (i+1))) (Ae St0 (os (i+1))) []) Q)):W P k rd (.loop ac) t s [] Q:=by
 refine DH tl os (fun i=>n-i) (fun i=>i≤n∧I i) 0 ⟨Zjy _,h0⟩ ha ?_
 rintro i ⟨hi,hI⟩
 refine (Cz hE (hr i hi hI)).mono ?_
 intro x t s ds hq
 cases x with
 | normal=>
  obtain ⟨rfl,h1,h2,h3⟩:=hq
  exact ⟨rfl,i+1,⟨h1,h2⟩,by omega,h3⟩
 | exit id=>exact hq
 | ret=>exact hq
variable {k:AV→St→Prop}{x y:AO}{es n i:Nat}{c:List AV}{q:IntKind}
theorem Ai {v:AV}(hx:ev x t=.some v) (hs:Sl es n l v) (hy:ev y t=.some (.int q (i:Int))) (h:i<n) (hd:l.drop (i*es)=c) (hk:k (.fp c) s):EPrim (.ixs es x y) t s k:=
 X9 hx hs hy (by omega) (by omega) (by rw [Int.toNat_natCast,hd];exact hk)
theorem Cm {v:AV}{a:Int}(hx:ev x t=.some v) (hs:Sl es n l v) (hy:ev y t=.some (.int q a)) (ha:a=i) (h:i<n) (hd:l.drop (i*es)=c) (hk:k (.fp c) s):EPrim (.ixs es x y) t s k:=
 Ai hx hs (by rw [hy,ha]) h hd hk
theorem AK {p:Nat→Prop}(h:∀ k<i,p k) (hi:p i):∀ k<i+1,p k:=fun k hk=>by
 rcases Zk7.1 hk with h'|rfl
 ·exact h k h'
 ·exact hi
theorem TW {α:Type}{l:List α}{p:α→Prop}(h:∀ k<l.length,∀ x,l[k]?=some x→p x):∀ x ∈ l,p x:=fun x hx=>by
 obtain ⟨k,hk⟩:=Zk6 hx
 exact h k (Zjg.1 hk).1 x hk
theorem Bg {n:Int}(h:Ad n):(Lit.int .i64 n).wf=true:=by
 unfold Ad at h
 simp [Lit.wf,IntKind.min,IntKind.max,IntKind.bits,IntKind.signed]
 omega
theorem Pc {n:Int}(h:Bm n):(Lit.int .u32 n).wf=true:=by
 unfold Bm at h
 simp [Lit.wf,IntKind.min,IntKind.max,IntKind.bits,IntKind.signed]
 omega
theorem X4 {t:AT}{s:St}{k:AV→St→Prop}{x:AO}{b:Bool}(hx:ev x t=.some (.bool b)) (h1:b=true→k (.bool false) s) (h2:b=false→k (.bool true) s):EPrim (.un .not x) t s k:=by
 cases b
 ·exact Iz hx (h2 rfl)
 ·exact JH hx (h1 rfl)
abbrev w20:=@X4
end Go.AM
namespace Go.AM
attribute [local irreducible] W
open X
structure WR where
 at_:Int
 u:AV
 b:List Nat
def WR.c (w:WR):List AV:=[.int .i64 w.at_,w.u]
structure WR.any (w:WR):Prop where
 at_:Ad w.at_
 b:BAt w.u w.b
def Af (L:List WR):List AV:=L.flatMap WR.c
theorem E5 (x:WR) (L:List WR):Af (x::L)=x.c++Af L:=rfl
theorem Dm:∀ (L:List WR),(Af L).length=L.length*2
 | []=>rfl
 | x::L=>by rw [E5,Zjt,Dm L,Zj9];show 2+_=_;omega
theorem Sp:∀ (L:List WR) (i:Nat),(Af L).drop (i*2)=Af (L.drop i)
 | L,0=>by simp
 | [],i+1=>by simp [Af]
 | x::L,i+1=>by
  rw [List.drop_succ_cons,← Sp L i,E5,show (i+1)*2=x.c.length+i*2 by show (i+1)*2=2+i*2;omega,List.drop_append,Zkb (by omega),List.nil_append]
  congr 1;omega
theorem FQ {L:List WR}{i:Nat}(h:i<L.length):(Af L).drop (i*2)=L[i].c++Af (L.drop (i+1)):=by
 rw [Sp,Zj2 h,E5]
theorem WR.inj {x y:WR}(hx:x.any) (hy:y.any) (h:x.c=y.c):x=y:=by
 obtain ⟨a,u,b⟩:=x
 obtain ⟨a',u',b'⟩:=y
 simp [WR.c] at h
 obtain ⟨rfl,rfl⟩:=h
 have:=hx.b.inj hy.b
 dsimp only at this
 rw [this]
theorem LV:∀ {L M:List WR},(∀ o ∈ L,o.any)→(∀ o ∈ M,o.any)→Af L=Af M→L=M
 | [],[],_,_,_=>rfl
 | [],y::M,_,_,h=>by have:=congrArg List.length h;rw [Dm,Dm] at this;simp at this
 | x::L,[],_,_,h=>by have:=congrArg List.length h;rw [Dm,Dm] at this;simp at this
 | x::L,y::M,hx,hy,h=>by
  rw [E5,E5] at h
  obtain ⟨h1,h2⟩:=List.append_inj h rfl
  rw [WR.inj (hx x (by simp)) (hy y (by simp)) h1,LV (fun o ho=>hx o (by simp [ho])) (fun o ho=>hy o (by simp [ho])) h2]
structure DK where
 bv:AV
 us:List AV
 bs:List (List Nat)
 wv:AV
 ws:List WR
 dead:Bool
def DK.c (x:DK):List AV:=[x.bv,x.wv,.bool x.dead]
def DK.v (x:DK):AV:=.agg x.c
structure DK.any (x:DK):Prop where
 bl:Sl 1 x.us.length x.us x.bv
 bs:All2 BAt x.us x.bs
 wl:Sl 2 x.ws.length (Af x.ws) x.wv
 ws:∀ w ∈ x.ws,w.any
structure DK.ok (x:DK):Prop where
 a:x.any
 n:x.us.length<1000000
 m:x.ws.length<1000000
 b:∀ b ∈ x.bs,b.length<1000000
 w:∀ w ∈ x.ws,w.b.length<1000000
theorem Wt:∀ {us:List AV}{bs bs':List (List Nat)},All2 BAt us bs→All2 BAt us bs'→bs=bs':=by
 intro us
 induction us with
 | nil=>intro _ _ a b;cases a;cases b;rfl
 | cons u us ih=>
  intro _ _ a b
  cases a with
  | cons a1 a2=>cases b with
   | cons b1 b2=>rw [a1.inj b1,ih a2 b2]
variable {x:DK}
theorem DK.inj {y:DK}(hx:x.any) (hy:y.any) (h:x.v=y.v):x=y:=by
 obtain ⟨bv,us,bs,wv,ws,dd⟩:=x
 obtain ⟨bv',us',bs',wv',ws',dd'⟩:=y
 have h:=AV.agg.inj h
 simp [DK.c] at h
 obtain ⟨rfl,rfl,rfl⟩:=h
 have e1:=hx.bl.l_inj hy.bl
 have e2:=LV hx.ws hy.ws (hx.wl.l_inj hy.wl)
 dsimp only at e1 e2
 subst e1 e2
 have e3:=Wt hx.bs hy.bs
 dsimp only at e3
 rw [e3]
theorem DK.hf (h:x.any):AM.hf x.v=true:=by
 show (AM.hf x.bv && (AM.hf x.wv && (true && true)))=true
 rw [h.bl.hf,h.wl.hf];rfl
def Dz (p:Nat→Bool):List Nat→Nat→Int
 | [],_=>-1
 | n::l,i=>if p n then (i:Int) else Dz p l (i+1)
theorem SA (p:Nat→Bool):∀ (l:List Nat) (i:Nat),(0≤Dz p l i↔l.any p=true)
 | [],i=>by simp [Dz]
 | n::l,i=>by
  unfold Dz
  rw [List.any_cons]
  cases h:p n
  ·simp only [Bool.false_or,Bool.false_eq_true,if_false];exact SA p l (i+1)
  ·simp
theorem ZW (e:Env) (hE:EM P e) (p:Nat→Bool) (g:Nat) (hg:∀ (x:BN),x.ok→∀ (s:St) (K:AV→St→Prop),K (.bool (p x.n)) s→ECall e g [x.v] s K) (x:BL) (hx:x.ok) (Q:AV→St→Prop) (k:∀ s,Q (.int .i64 (Dz p x.ns 0)) s):
 VW P e 0 Zd3 (Al [x.v,.fn g [] []] 0 .lf) St0 none [] (Cj [.tmp 4] Q):=by
 obtain ⟨v,us,ns⟩:=x
 obtain ⟨hs,hb,hl⟩:=hx
 dsimp only at hs hb hl k ⊢
 have hlen:=hb.length
 conv=>whnf
 refine Ac rfl hs ?_;conv=>whnf
 refine OZ (α:=Nat) (fun i=>[(0,v),(1,.fn g [] []),(7,.int .i64 (us.length:Int)),(8,.int .i64 (i:Int))]) (fun i=>[]) (fun i=>us.length-i)
  (fun i=>i≤us.length∧Dz p ns 0=Dz p (ns.drop i) i) 0 [] ⟨Zjy _,rfl⟩ ⟨by decide,⟨t9 hs.hf,r9,r9,r9,trivial⟩,trivial⟩ ?_
 rintro i ⟨hi,hI⟩
 refine Cz hE ?_;conv=>whnf
 refine Bd rfl rfl (fun h=>?_) (fun h=>?_) <;> conv=>whnf
 ·have hlt:i<us.length:=by omega
  have hln:i<ns.length:=by omega
  refine BZ rfl hs rfl hlt ?_;conv=>whnf
  refine EHead.mk (v:=us[i]) (by rw [Zki,Zjq,Zko,Zjf hlt]) ?_;conv=>whnf
  obtain ⟨n,hn,hbn⟩:=hb.get (Zjf hlt)
  have hn':ns[i]=n:=by rw [Zjf hln] at hn;exact Zkn hn
  rw [Zj2 hln,hn'] at hI
  refine hg ⟨us[i],n⟩ hbn _ _ ?_
  rw [show Dz p (n::ns.drop (i+1)) i=if p n then (i:Int) else Dz p (ns.drop (i+1)) (i+1) from rfl] at hI
  dsimp only
  cases ho:p n
  ·rw [ho,Zjn (by decide)] at hI
   conv=>whnf
   repeat' (first|((first|refine w7 rfl rfl (by omega) ?_|refine ⟨rfl,?_⟩);conv=>whnf)|fail)
   refine ⟨i+1,⟨hlt,hI⟩,by omega,[],⟨by decide,⟨t9 hs.hf,r9,r9,⟨rfl,by simp;rfl⟩,trivial⟩,trivial⟩⟩
  ·rw [ho,Zjj rfl] at hI
   conv=>whnf
   rw [hI] at k;exact k _
 ·have hd:ns.drop i=[]:=Zkb (by omega)
  rw [hd] at hI
  have hI:Dz p ns 0=-1:=hI
  rw [hI] at k;exact k _
def HY (p:Nat→Bool) (g:Nat):Fam BL:=⟨BL.ok,fun x=>[x.v,.fn g [] []],fun x=>.int .i64 (Dz p x.ns 0),fun x y hx hy h=>by rw [BL.inj hx hy (Zjr h).1]⟩
theorem SG {e:Env}(hE:EM P e) (p:Nat→Bool) (g:Nat) (hg:∀ (x:BN),x.ok→∀ (s:St) (K:AV→St→Prop),K (.bool (p x.n)) s→ECall e g [x.v] s K):OvOk P 142 (HY p g).O:=by
 refine Ca g142.b fun x hx=>?_
 refine ⟨by show (AM.hf x.v && (true && true && true))=true;rw [hx.sl.hf];rfl,rfl,C.of_G hE g142 (ZW e hE p g hg x hx _ fun s=>.plain _ rfl)⟩
def Fx (h1 h2:Ov):Ov:=fun args s=>match h1 args s with
 | .fail=>h2 args s
 | r=>r
theorem Pl {f:Nat}{h1 h2:Ov}(q1:OvOk P f h1) (q2:OvOk P f h2):OvOk P f (Fx h1 h2):=by
 refine ⟨q1.1,fun args s v s' h=>?_⟩
 unfold Fx at h
 cases hq:h1 args s with
 | fail=>rw [hq] at h;exact q2.2 args s v s' h
 | ok v1 s1=>rw [hq] at h;cases h;exact q1.2 args s _ _ hq
end Go.AM
namespace Go.AM
open Go.RowKit
def tWr:List Ty:=[.int .i64,tByt]
def tDisk:List Ty:=[.sl tByt,.sl (.st tWr),.bool]
end Go.AM
namespace Go.AM
open X
def cfgC:Ce Cfg:=⟨6,fun c l=>l=c.c∧c.ok,by rintro _ _ ⟨rfl,_⟩;rfl,by rintro _ _ ⟨rfl,_⟩;rfl,by rintro _ _ _ ⟨rfl,_⟩ ⟨h,_⟩;exact Cfg.inj h⟩
def lvC:Ce Lv:=⟨6,fun c l=>l=c.c∧c.ok,by rintro _ _ ⟨rfl,_⟩;rfl,by rintro _ _ ⟨rfl,_⟩;rfl,by
 rintro ⟨⟩ ⟨⟩ _ ⟨rfl,_⟩ ⟨h,_⟩
 simp [Lv.c] at h
 obtain ⟨rfl,rfl,rfl,rfl,rfl,rfl⟩:=h;rfl⟩
abbrev i64C:=Ce.int .i64
abbrev u32C:=Ce.int .u32
abbrev bytC:=Ce.u8.sl
abbrev blkC:=bytC.sl
abbrev Hd:=Int×List (List Nat)×List Bool×Nat×Bool×Int
def hdC:Ce Hd:=i64C.pr (blkC.pr (Ce.bool.sl.pr (Ce.u8.pr (Ce.bool.pr u32C))))
abbrev Lg:=Int×Int×Int×Int×List Lv
def lgC:Ce Lg:=u32C.pr (u32C.pr (i64C.pr (i64C.pr lvC.sl)))
abbrev Ak:=Nat×Int×Int×List Nat
def akC:Ce Ak:=Ce.u8.pr (i64C.pr (i64C.pr bytC))
abbrev Fl:=Int×Ak×List Nat×List Int×List (List Nat)
def ftC:Ce Fl:=i64C.pr (akC.pr (bytC.pr (u32C.sl.pr blkC)))
abbrev Lo:=Int×Int×Bool×Int×Int×Bool×Bool
def loC:Ce Lo:=u32C.pr (i64C.pr (Ce.bool.pr (i64C.pr (i64C.pr (Ce.bool.pr Ce.bool)))))
abbrev Dv:=Cfg×Bool×Lo×List Hd×Lg×List Fl×Int×Bool
def dvC:Ce Dv:=cfgC.pr (Ce.bool.pr (loC.pr (hdC.sl.pr (lgC.pr (ftC.sl.pr (i64C.pr Ce.bool))))))
abbrev Dk:=List (List Nat)×List (Int×List Nat)×Bool
def wrC:Ce (Int×List Nat):=i64C.pr bytC
def dkC:Ce Dk:=blkC.pr (wrC.sl.pr Ce.bool)
variable {sq:Int}{l:List AV}
theorem Cf {st:Int}{bl:List (List Nat)}{di:List Bool}{ph:Nat}{de:Bool}(h:hdC.r (st,bl,di,ph,de,sq) l):∃ bv dv,l=[.int .i64 st,bv,dv,.int .u8 (ph:Int),.bool de,.int .u32 sq]∧Ad st∧Ls bytC bl bv∧Ls Ce.bool di dv∧ph<256∧Bm sq:=by
 obtain ⟨_,_,rfl,⟨rfl,h1⟩,_,_,rfl,⟨bv,rfl,h2⟩,_,_,rfl,⟨dv,rfl,h3⟩,_,_,rfl,⟨rfl,h4⟩,_,_,rfl,rfl,rfl,h5⟩:=h
 exact ⟨bv,dv,rfl,Cq h1,h2,h3,h4,HJ h5⟩
variable {ag tl us:Int}{L:List Lv}
theorem MA (h:lgC.r (ag,sq,tl,us,L) l):∃ v,l=[.int .u32 ag,.int .u32 sq,.int .i64 tl,.int .i64 us,v]∧Bm ag∧Bm sq∧Ad tl∧Ad us∧Ls lvC L v:=by
 obtain ⟨_,_,rfl,⟨rfl,h1⟩,_,_,rfl,⟨rfl,h2⟩,_,_,rfl,⟨rfl,h3⟩,_,_,rfl,⟨rfl,h4⟩,v,rfl,h5⟩:=h
 exact ⟨v,rfl,HJ h1,HJ h2,Cq h3,Cq h4,h5⟩
variable {k:Nat}{a m:Int}{d:List Nat}
theorem Hi (h:akC.r (k,a,m,d) l):∃ v,l=[.int .u8 (k:Int),.int .i64 a,.int .i64 m,v]∧k<256∧Ad a∧Ad m∧Ls Ce.u8 d v:=by
 obtain ⟨_,_,rfl,⟨rfl,h1⟩,_,_,rfl,⟨rfl,h2⟩,_,_,rfl,⟨rfl,h3⟩,v,rfl,h4⟩:=h
 exact ⟨v,rfl,h1,Cq h2,Cq h3,h4⟩
theorem CW {n:Int}{st:List Nat}{sq:List Int}{da:List (List Nat)}(h:ftC.r (n,(k,a,m,d),st,sq,da) l):∃ dv tv qv av,l=[.int .i64 n,.int .u8 (k:Int),.int .i64 a,.int .i64 m,dv,tv,qv,av]∧Ad n∧k<256∧Ad a∧Ad m∧Ls Ce.u8 d dv∧Ls Ce.u8 st tv∧Ls u32C sq qv∧Ls bytC da av:=by
 obtain ⟨_,_,rfl,⟨rfl,h1⟩,_,_,rfl,h2,_,_,rfl,⟨tv,rfl,h3⟩,_,_,rfl,⟨qv,rfl,h4⟩,av,rfl,h5⟩:=h
 obtain ⟨dv,rfl,g1,g2,g3,g4⟩:=Hi h2
 exact ⟨dv,tv,qv,av,rfl,Cq h1,g1,g2,g3,g4,h3,h4,h5⟩
variable {sp:Bool}
theorem M9 {ev lo:Int}{po dn:Int}{nl br:Bool}(h:loC.r (ev,lo,sp,po,dn,nl,br) l):l=[.int .u32 ev,.int .i64 lo,.bool sp,.int .i64 po,.int .i64 dn,.bool nl,.bool br]∧Bm ev∧Ad lo∧Ad po∧Ad dn:=by
 obtain ⟨_,_,rfl,⟨rfl,h1⟩,_,_,rfl,⟨rfl,h2⟩,_,_,rfl,rfl,_,_,rfl,⟨rfl,h3⟩,_,_,rfl,⟨rfl,h4⟩,_,_,rfl,rfl,rfl⟩:=h
 exact ⟨rfl,HJ h1,Cq h2,Cq h3,Cq h4⟩
theorem Ziw {c:Cfg}{bk:Bool}{o:Lo}{hs:List Hd}{fs:List Fl}{nx:Int}(h:dvC.r (c,bk,o,hs,(ag,sq,tl,us,L),fs,nx,sp) l):∃ ol hv lv fv,l=c.c++([.bool bk]++(ol++[hv,.int .u32 ag,.int .u32 sq,.int .i64 tl,.int .i64 us,lv,fv,.int .i64 nx,.bool sp]))∧c.ok∧loC.r o ol∧Ls hdC hs hv∧Bm ag∧Bm sq∧Ad tl∧Ad us∧Ls lvC L lv∧Ls ftC fs fv∧Ad nx:=by
 obtain ⟨_,_,rfl,⟨rfl,h1⟩,_,_,rfl,rfl,ol,_,rfl,h3,_,_,rfl,⟨hv,rfl,h4⟩,_,_,rfl,h5,_,_,rfl,⟨fv,rfl,h6⟩,_,_,rfl,⟨rfl,h7⟩,rfl⟩:=h
 obtain ⟨lv,rfl,g⟩:=MA h5
 exact ⟨ol,hv,lv,fv,rfl,h1,h3,h4,g.1,g.2.1,g.2.2.1,g.2.2.2.1,g.2.2.2.2,h6,Cq h7⟩
variable {bs:List (List Nat)}
theorem Gm {ws:List (Int×List Nat)}{dd:Bool}(h:dkC.r (bs,ws,dd) l):∃ bv wv,l=[bv,wv,.bool dd]∧Ls bytC bs bv∧Ls wrC ws wv:=by
 obtain ⟨_,_,rfl,⟨bv,rfl,h1⟩,_,_,rfl,⟨wv,rfl,h2⟩,rfl⟩:=h
 exact ⟨bv,wv,rfl,h1,h2⟩
theorem OM:∀ {b:List Nat}{ls:List (List AV)},All2 Ce.u8.r b ls→ls.flatten=Aj b∧∀ x ∈ b,x<256
 | [],_,h=>by cases h;exact ⟨rfl,fun x h=>by cases h⟩
 | x::b,_,h=>by
  cases h with
  | cons h1 h2=>
   obtain ⟨e,g⟩:=OM h2
   obtain ⟨rfl,hx⟩:=h1
   refine ⟨by rw [List.flatten_cons,e];rfl,fun y hy=>?_⟩
   rcases Zkp.1 hy with rfl|hy
   ·exact hx
   ·exact g y hy
variable {v:AV}
theorem Ls.b {b:List Nat}(h:Ls Ce.u8 b v):BAt v b:=by
 obtain ⟨ls,a,s,_⟩:=h
 obtain ⟨e,g⟩:=OM a
 rw [e] at s
 exact ⟨s,g⟩
theorem Ls.bl (h:Ls bytC bs v):∃ us,Sl 1 us.length us v∧All2 BAt us bs:=by
 obtain ⟨ls,a,s,_⟩:=h
 have key:∀ {bs:List (List Nat)}{ls:List (List AV)},All2 bytC.r bs ls→All2 BAt ls.flatten bs:=by
  intro bs
  induction bs with
  | nil=>intro _ h;cases h;exact .nil
  | cons b bs ih=>
   intro _ h
   cases h with
   | cons h1 h2=>
    obtain ⟨u,rfl,g⟩:=h1
    exact .cons g.b (ih h2)
 have h1:=key a
 exact ⟨_,by rw [h1.length];exact s,h1⟩
theorem Ls.lv (h:Ls lvC L v):∃ cs,Sl 6 L.length cs v∧L.length≤9223372036854775807∧∀ i,i<L.length→∃ sq st bl pa su ho r,L[i]?=some ⟨sq,st,bl,pa,su,ho⟩∧(Bm sq∧Ad st∧Ad bl)∧cs.drop (i*6)=[.int .u32 sq,.int .i64 st,.int .i64 bl,.bool pa,.bool su,.bool ho]++r:=by
 obtain ⟨cs,h1,h2,hn⟩:=h.nth
 refine ⟨cs,h1,h2,fun i hi=>?_⟩
 obtain ⟨⟨sq,st,bl,pa,su,ho⟩,_,r,hx,⟨rfl,⟨o1,o2,o3⟩⟩,hd⟩:=hn i hi
 exact ⟨sq,st,bl,pa,su,ho,r,hx,⟨o1,o2,o3⟩,hd⟩
theorem Jl (h1:k<256) (h2:Ad a) (h3:Ad m) (h4:Ls Ce.u8 d v):akC.r (k,a,m,d) [.int .u8 (k:Int),.int .i64 a,.int .i64 m,v]:=
 ⟨[_],_,rfl,⟨rfl,h1⟩,[_],_,rfl,⟨rfl,Bg h2⟩,[_],_,rfl,⟨rfl,Bg h3⟩,v,rfl,h4⟩
end Go.AM
namespace Go.AM
attribute [local irreducible] W
open X
theorem Og {α:Type}(F:Fam α) {x:α}(hx:F.ok x) (s:St):F.O (F.enc x) s=.ok (F.out x) s:=by
 have h:∃ u,∃ y,F.ok y∧F.enc x=F.enc y∧u=F.out y:=⟨_,x,hx,rfl,rfl⟩
 unfold Fam.O Bx
 rw [dif_pos h]
 obtain ⟨y,hy,e,hu⟩:=Zku h
 rw [hu,F.inj x y hx hy e]
theorem Zay {α:Type}(F:Fam α) {args:List AV}(h:∀ x,F.ok x→args≠F.enc x) (s:St):F.O args s=.fail:=by
 unfold Fam.O Bx
 rw [dif_neg]
 rintro ⟨u,y,hy,e,_⟩
 exact h y hy e
def Eb (n:Nat):Bool:=decide (0<n)
noncomputable def Hm:Ov:=Fx (HY AP 92).O (HY Eb 95).O
variable {e:Env}{x:BL}{s:St}{K:AV→St→Prop}
theorem Zaf (h:Con e 142 Hm) (hx:x.ok) (hk:K (.int .i64 (Dz AP x.ns 0)) s):ESc e 142 [x.v,.fn 92 [] []] s K:=by
 refine ESc.ov h (v:=.int .i64 (Dz AP x.ns 0)) (s':=s) ?_ hk
 unfold Hm Fx
 rw [show (HY AP 92).O [x.v,.fn 92 [] []] s=.ok (.int .i64 (Dz AP x.ns 0)) s from Og (HY AP 92) hx s]
theorem Zae (h:Con e 142 Hm) (hx:x.ok) (hk:K (.int .i64 (Dz Eb x.ns 0)) s):ESc e 142 [x.v,.fn 95 [] []] s K:=by
 refine ESc.ov h (v:=.int .i64 (Dz Eb x.ns 0)) (s':=s) ?_ hk
 unfold Hm Fx
 rw [Zay (HY AP 92) (fun y hy e=>by
  have e:=(Zjr (Zjr e).2).1
  injection e with e;cases e) s]
 exact Og (HY Eb 95) hx s
theorem SH (p:Nat→Bool) (g:Nat) (v:AV) (ns:List Nat) (s:St) (hcall:∀ (K:AV→St→Prop),K (.int .i64 (Dz p ns 0)) s→ESc e 142 [v,.fn g [] []] s K) (Q:AV→St→Prop) (k:Q (.bool (ns.any p)) s):
 VE e Uh (Al [v,.fn g [] []] 0 .lf) s none [] (Cj [.tmp 4] Q):=by
 conv=>whnf
 refine hcall _ ?_;conv=>whnf
 have ha:=SA p ns 0
 refine DS rfl rfl (fun h=>?_) (fun h=>?_) <;> conv=>whnf
 ·rw [ha.1 h] at k;exact k
 ·have:ns.any p=false:=by
   cases hq:ns.any p
   ·rfl
   ·have:=ha.2 hq;omega
  rw [this] at k;exact k
theorem Xc (hE:EM P e):OvOk P 92 oddF.O:=by
 refine Ca g92.b ?_
 rintro ⟨v,n⟩ hx
 obtain ⟨⟨l,hv⟩,hn⟩:=hx
 dsimp only at hv hn
 refine ⟨by show (AM.hf v && true)=true;rw [hv.hf];rfl,rfl,C.of_G hE g92 ?_⟩
 have fin:∀ s (b:Bool),b=AP n→Frz s (.bool b) (oddF.out ⟨v,n⟩):=by
  rintro s b rfl;exact .plain _ rfl
 unfold AP at fin
 show VW P e 0 (match a92 with|.mk c _=>c) (Al [v] 0 .lf) St0 none [] _
 conv=>whnf
 repeat' (first|(refine Ac rfl hv ?_;conv=>whnf)|((refine w6 rfl rfl ?_ ?_) <;> intro _ <;> first|(exfalso;omega)|(conv=>whnf))|fail)
 all_goals first
  | exact fin _ _ (by rw [Zjk (by omega),Zjk (by omega)];rfl)
  | exact fin _ _ (by rw [Zjk (by omega),Zjw (by omega)];rfl)
  | exact fin _ _ (by rw [Zjw (by omega)];rfl)
def Zd0:AC:=match a95 with|.mk c _=>c
theorem Zdg (hE:EM P e) (h143:Con e 92 oddF.O) (h146:Inl e 95 Zd0 [.tmp 2]):OvOk P 142 Hm:=by
 refine Pl (SG hE AP 92 (fun x hx s K hk=>?_)) (SG hE Eb 95 (fun x hx s K hk=>?_))
 ·exact ECall.fam oddF h143 x hx rfl hk
 ·obtain ⟨⟨l,hv⟩,hn⟩:=hx
  refine ECall.inl h146.O h146.G ?_
  unfold Eb at hk
  conv=>whnf
  repeat' (first|(refine Ac rfl hv ?_;conv=>whnf)|((refine w3 rfl rfl ?_ ?_) <;> intro _ <;> first|(exfalso;omega)|(conv=>whnf))|fail)
  ·rw [Zjk (by omega)] at hk;exact hk
  ·rw [Zjw (by omega)] at hk;exact hk
def Bk (many:Int) (w:WR):Bool:=decide (w.at_<0) || decide (many≤w.at_) || AP w.b.length
def Bs (p:WR→Bool):List WR→Nat→Int
 | [],_=>-1
 | n::l,i=>if p n then (i:Int) else Bs p l (i+1)
theorem S9 (p:WR→Bool):∀ (l:List WR) (i:Nat),(0≤Bs p l i↔l.any p=true)
 | [],i=>by simp [Bs]
 | n::l,i=>by
  unfold Bs
  rw [List.any_cons]
  cases h:p n
  ·simp only [Bool.false_or,Bool.false_eq_true,if_false];exact S9 p l (i+1)
  ·simp
structure WI where
 v:AV
 ws:List WR
 r:Nat
 many:Int
structure WI.ok (x:WI) (s:St):Prop where
 sl:Sl 2 x.ws.length (Af x.ws) x.v
 w:∀ w ∈ x.ws,w.any∧w.b.length<1000000
 g:s.get x.r=some (.row 3 [.int .i64 x.many])
 m:Ad x.many
 n:x.ws.length<1000000
def WI.args (x:WI):List AV:=[x.v,.fn 94 [] [.ptr x.r 0]]
def WI.out (x:WI):AV:=.int .i64 (Bs (Bk x.many) x.ws 0)
noncomputable def HS:Ov:=fun args s=>open Classical in if h:∃ x:WI,x.ok s∧args=x.args then .ok (Classical.choose h).out s else .fail
theorem XJ {x:WI}(hx:x.ok s):HS x.args s=.ok x.out s:=by
 have h:∃ y:WI,y.ok s∧x.args=y.args:=⟨x,hx,rfl⟩
 unfold HS
 rw [dif_pos h]
 obtain ⟨h1,h2⟩:=Zku h
 generalize Classical.choose h=y at h1 h2 ⊢
 obtain ⟨v,ws,r,m⟩:=x
 obtain ⟨v',ws',r',m'⟩:=y
 simp [WI.args] at h2
 obtain ⟨rfl,rfl⟩:=h2
 have e1:=LV (fun o ho=>(hx.w o ho).1) (fun o ho=>(h1.w o ho).1) (hx.sl.l_inj h1.sl)
 have e2:=hx.g.symm.trans h1.g
 dsimp only at e1 e2
 injection e2 with e2
 injection e2 with _ e2
 injection e2 with e2
 injection e2 with _ e2
 subst e1 e2;rfl
def T9:AC:=match Nu with|.mk c _=>c
def Zd1:AC:=match a94 with|.mk c _=>c
def Zd2:AC:=match a93 with|.mk c _=>c
theorem YW (hE:EM P e) (h143:Con e 92 oddF.O) (h145:Inl e 94 Zd1 [.tmp 3]):OvOk P 143 HS:=by
 refine ⟨g143.b,fun args s u s' hh=>?_⟩
 unfold HS at hh
 split at hh
 ·rename_i hx
  cases hh
  obtain ⟨h1,h2⟩:=Zku hx
  generalize Classical.choose hx=y at h1 h2 ⊢
  subst h2
  obtain ⟨v,ws,r,m⟩:=y
  obtain ⟨hs,hw,hg,hmb,hn⟩:=h1
  dsimp only at hs hw hg hmb hn
  have hvf:=hs.hf
  refine K8 (args2:=[v,.fn 94 [] [.fp [.int .i64 m]]]) (.cons (.plain _ hvf) (.cons (.fn 94 [] [.ptr r 0] [] [.fp [.int .i64 m]] .nil (.cons (.ptr r 0 3 [.int .i64 m] [.int .i64 m] [.int .i64 m] hg (fun i x h=>by rw [Zju];exact h) (.cons (.plain _ rfl) .nil)) .nil)) .nil)) rfl (I8 ?_ ?_)
  ·show (AM.hf v && _)=true;rw [hvf];rfl
  refine C.of_G hE g143 ?_
  show VW P e 0 T9 (Al [v,.fn 94 [] [.fp [.int .i64 m]]] 0 .lf) St0 none [] (Cj [.tmp 4] (fun w s'=>Frz s' w (.int .i64 (Bs (Bk m) ws 0))))
  conv=>whnf
  refine Ac rfl hs ?_;conv=>whnf
  refine DH (α:=Nat) (fun i=>[(0,v),(1,.fn 94 [] [.fp [.int .i64 m]]),(7,.int .i64 (ws.length:Int)),(8,.int .i64 (i:Int))]) (fun _=>[]) (fun i=>ws.length-i) (fun i=>i≤ws.length∧Bs (Bk m) ws 0=Bs (Bk m) (ws.drop i) i) 0 ⟨Zjy _,rfl⟩
   (Abs.tells (rs:=[]) .a) ?_
  rintro i ⟨hi,hI⟩
  refine Cz hE ?_
  by_cases hlt:i<ws.length
  ·have hd:=FQ hlt
   obtain ⟨⟨hwa,hwb⟩,hwl⟩:=hw _ (Zkg hlt)
   rw [Zj2 hlt] at hI
   have hall:=And.intro hI (And.intro hd (And.intro hwa (And.intro hwb hwl)))
   clear hI hd hwa hwb hwl
   revert hall
   generalize ws[i]=w
   obtain ⟨wa,wu,wb⟩:=w
   rintro ⟨hI,hd,hwa,hwb,hwl⟩
   have hd:(Af ws).drop (i*2)=[.int .i64 wa,wu]++Af (ws.drop (i+1)):=hd
   have hI:Bs (Bk m) ws 0=if Bk m ⟨wa,wu,wb⟩ then (i:Int) else Bs (Bk m) (ws.drop (i+1)) (i+1):=hI
   unfold Bk at hI
   dsimp only at hI hwl hwb
   have yes:∀ b:Bool,b=true→(decide (wa<0) || decide (m≤wa) || AP wb.length)=b→Bs (Bk m) ws 0=(i:Int):=fun b hb he=>by
    rw [he,hb,Zjj rfl] at hI;exact hI
   have no:(decide (wa<0) || decide (m≤wa) || AP wb.length)=false→Bs (Bk m) ws 0=Bs (Bk m) (ws.drop (i+1)) (i+1):=fun he=>by
    rw [he,Zjn (by simp)] at hI;exact hI
   clear hI
   have hcell:∀ (K:List AV→Prop),K [.int .i64 wa,wu]→ETake 2 ([.int .i64 wa,wu]++Af (ws.drop (i+1))) K:=fun K hk=>Ay rfl hk
   have hend:∀ t s,Bs (Bk m) ws 0=Bs (Bk m) (ws.drop (i+1)) (i+1)→t.get 0=some v→t.get 1=some (.fn 94 [] [.fp [.int .i64 m]])→t.get 7=some (.int .i64 (ws.length:Int))→t.get 8=some (.int .i64 ((i:Int)+1))→
    ∃ x',(x'≤ws.length∧Bs (Bk m) ws 0=Bs (Bk m) (ws.drop x') x')∧ws.length-x'<ws.length-i∧Tells P 0 t s [] (At [(0,v),(1,.fn 94 [] [.fp [.int .i64 m]]),(7,.int .i64 (ws.length:Int)),(8,.int .i64 (x':Int))]) (Ae St0 []) []:=fun t s h0 g0 g1 g7 g8=>
    ⟨i+1,⟨hlt,h0⟩,by omega,Abs.tells (rs:=[]) ⟨by decide,⟨⟨DZ _ hvf,by rw [DF _ hvf];exact g0⟩,⟨rfl,g1⟩,⟨rfl,g7⟩,⟨rfl,g8⟩,trivial⟩,trivial⟩⟩
   conv=>whnf
   refine Bd rfl rfl (fun _=>?_) (fun h=>by omega);conv=>whnf
   refine BZ rfl hs rfl hlt ?_
   rw [hd]
   conv=>whnf
   refine hcell _ ?_;conv=>whnf
   refine ECall.inl h145.O h145.G ?_;conv=>whnf
   refine Bd (a:=wa) (b:=0) rfl rfl (fun h1=>?_) (fun h1=>?_)
   ·conv=>whnf
    skip
    rw [yes true rfl (by rw [Zjk h1];rfl)];exact .plain _ rfl
   conv=>whnf
   refine EHead.mk rfl ?_;conv=>whnf
   refine DS (a:=wa) (b:=m) rfl rfl (fun h2=>?_) (fun h2=>?_)
   ·conv=>whnf
    skip
    rw [yes true rfl (by rw [Zjk h2];simp)];exact .plain _ rfl
   conv=>whnf
   refine ESc.fam oddF h143 ⟨wu,wb.length⟩ ⟨⟨_,hwb.1⟩,by dsimp only;omega⟩ (u:=.bool (AP wb.length)) rfl ?_
   have e1:(decide (wa<0) || decide (m≤wa) || AP wb.length)=AP wb.length:=by rw [Zjw (by omega),Zjw (by omega)];rfl
   cases ho:AP wb.length
   ·conv=>whnf
    repeat' (first|((first|refine w7 rfl rfl (by omega) ?_|refine ⟨rfl,?_⟩);conv=>whnf)|fail)
    exact hend _ _ (no (by rw [e1];exact ho)) rfl rfl rfl rfl
   ·conv=>whnf
    skip
    rw [yes true rfl (by rw [e1];exact ho)];exact .plain _ rfl
  ·have hd:ws.drop i=[]:=Zkb (by omega)
   rw [hd] at hI
   have hI:Bs (Bk m) ws 0=-1:=hI
   conv=>whnf
   refine Bd rfl rfl (fun h=>by omega) (fun _=>?_);conv=>whnf
   rw [hI];exact .plain _ rfl
 ·cases hh
def AN (x:DK):Bool:=decide (1≤x.us.length∧x.us.length≤256∧x.ws.length≤1024) && !((x.bs.map List.length).any AP) && !(x.ws.any (Bk x.us.length)) && !(x.dead && (decide (0<x.ws.length) || (x.bs.map List.length).any Eb))
def dskF:Fam DK:=⟨DK.ok,fun x=>[x.v],fun x=>.int .i64 (if AN x=true then 0 else 8),fun x y hx hy h=>by rw [DK.inj hx.a hy.a (Zjr h).1]⟩
theorem YJ {us:List AV}{bs:List (List Nat)}(h:All2 BAt us bs) (hs:∀ b ∈ bs,b.length<1000000):All2 (fun u n=>BN.ok ⟨u,n⟩) us (bs.map List.length):=by
 induction h with
 | nil=>exact .nil
 | @cons u b us bs a _ ih=>exact .cons ⟨⟨_,a.1⟩,by have:=hs b (by simp);dsimp only;omega⟩ (ih fun c hc=>hs c (by simp [hc]))
def Zea:AC:=match a44 with|.mk c _=>c
theorem Zdh (hE:EM P e) (h93:Inl e 91 Uh [.tmp 4]) (h138:Con e 142 Hm) (h144:Inl e 93 Zd2 [.tmp 4]) (h163:Con e 143 HS):OvOk P 44 dskF.O:=by
 refine Ca g44.b fun x hx=>?_
 refine ⟨by show (AM.hf x.v && true)=true;rw [DK.hf hx.a];rfl,rfl,C.of_G hE g44 ?_⟩
 have fin:∀ s (n:Int),n=(if AN x=true then 0 else 8)→Frz s (.int .i64 n) (dskF.out x):=by rintro s n rfl;exact .plain _ rfl
 obtain ⟨⟨hbl,hbs,hwl,hws⟩,hn,hm',hb',hw'⟩:=hx
 obtain ⟨bv,us,bs,wv,ws,dd⟩:=x
 dsimp only at hbl hbs hwl hws hn hm' hb' hw'
 have hBL:BL.ok ⟨bv,us,bs.map List.length⟩:=⟨hbl,YJ hbs hb',by dsimp only;omega⟩
 have hodd:=fun (K:AV→St→Prop) (s:St)=>SH (e:=e) AP 92 bv (bs.map List.length) s (fun K hk=>Zaf h138 hBL hk) K
 have hpos:=fun (K:AV→St→Prop) (s:St)=>SH (e:=e) Eb 95 bv (bs.map List.length) s (fun K hk=>Zae h138 hBL hk) K
 have hwa:=S9 (Bk us.length) ws 0
 unfold AN at fin
 dsimp only at fin
 show VW P e 0 Zea (Al [.agg [bv,wv,.bool dd]] 0 .lf) St0 none [] _
 conv=>whnf
 refine Ac rfl hbl ?_;conv=>whnf
 by_cases hT:1≤us.length∧us.length≤256∧ws.length≤1024
 ·rw [Zjk hT] at fin
  repeat' (first|(refine Ac rfl hwl ?_;conv=>whnf)|((first|refine w1 rfl rfl ?_ ?_|refine w3 rfl rfl ?_ ?_) <;> intro _ <;> first|(exfalso;omega)|(conv=>whnf))|fail)
  refine ESc.inl h93 (hodd _ _ ?_)
  cases ho:(bs.map List.length).any AP
  ·rw [ho] at fin
   conv=>whnf
   skip
   refine ESc.inl h144 ?_;conv=>whnf
   refine ESc.ov h163 (XJ (x:=⟨wv,ws,1,us.length⟩) ⟨hwl,fun w hw=>⟨hws w hw,hw' w hw⟩,rfl,by unfold Ad;dsimp only;omega,by dsimp only;omega⟩) ?_;conv=>whnf
   cases hw:ws.any (Bk us.length)
   ·have hwn:¬ (0≤Bs (Bk us.length) ws 0):=fun h=>by rw [hwa.1 h] at hw;cases hw
    rw [hw] at fin
    refine DS (a:=Bs (Bk us.length) ws 0) (b:=0) rfl rfl (fun h=>absurd h hwn) (fun _=>?_)
    cases dd
    ·conv=>whnf
     skip
     exact fin _ 0 (by simp)
    ·conv=>whnf
     repeat' (first|(refine Ac rfl hwl ?_;conv=>whnf)|((refine w3 rfl rfl ?_ ?_) <;> intro _ <;> first|(exfalso;omega)|(conv=>whnf))|fail)
     ·exact fin _ 8 (by rw [Zjk (by omega)];simp)
     ·refine ESc.inl h93 (hpos _ _ ?_)
      rw [Zjw (by omega)] at fin
      cases hp:(bs.map List.length).any Eb
      ·rw [hp] at fin
       conv=>whnf
       skip
       exact fin _ 0 (by simp)
      ·rw [hp] at fin
       conv=>whnf
       skip
       exact fin _ 8 (by simp)
   ·rw [hw] at fin
    refine DS (a:=Bs (Bk us.length) ws 0) (b:=0) rfl rfl (fun _=>?_) (fun h=>absurd (hwa.2 hw) (by omega));conv=>whnf
    skip
    exact fin _ 8 (by simp)
  ·rw [ho] at fin
   conv=>whnf
   skip
   exact fin _ 8 (by simp)
 ·rw [Zjw hT] at fin
  repeat' (first|(refine Ac rfl hwl ?_;conv=>whnf)|((first|refine w1 rfl rfl ?_ ?_|refine w3 rfl rfl ?_ ?_) <;> intro _ <;> first|(exfalso;omega)|(conv=>whnf))|fail)
  all_goals first|exact fin _ 8 (by simp)|(exfalso;omega)
end Go.AM
