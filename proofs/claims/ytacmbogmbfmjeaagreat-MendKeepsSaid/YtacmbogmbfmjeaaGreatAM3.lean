/-
 Functions of the program as the abstract machine reads them, and what is stated of them, checked by the kernel. No conditions.
-/
import Derived.RangeFuncLeaves
import Derived.LoopNIn
import Derived.TacticsIn
import Derived.OrdersIn
import Derived.Test.YtacmbogmbfmjeaaGreatAM2
set_option linter.unusedVariables false
set_option linter.unusedSimpArgs false
set_option linter.unnecessarySimpa false
set_option maxRecDepth 100000
namespace Go.AM
section
variable {P:Program}{γ:Gam}{s:St}{w:World}{t:AT}{ρ:Operand→Value}
def RG:AOp→Bool
 | .call ..|.scall ..|.inv ..=>true
 | _=>false
def Fo:AOp→Bool
 | .new ..|.box ..|.bsl ..|.mks ..|.mkmap=>true
 | _=>false
theorem map_some {α β:Type}{f:α→β}{x:Option α}{y:β}(h:x.map f=some y):∃ a,x=some a∧f a=y:=by
 cases x with
 | none=>cases h
 | some a=>exact ⟨a,rfl,Zrh h⟩
def T3 (P:Program) (γ:Gam) (s:St) (w:World) (ρ:Operand→Value) (o:Oper) (p:AOp) (v:AV) (s':St):Prop:=
 (Fo p=true∧Fresh P γ w ρ o s v s')∨(Fo p=false∧(Sim P γ s w→OpOk P γ s w ρ o v s'))
variable {ty:Nat}
theorem Qc (h:O0 P ty=true):∃ kt e kk,P.underlying ty=some (.map kt e)∧P.underlying kt=some (.int kk):=by
 unfold O0 at h
 split at h
 ·rename_i kt e hu
  split at h
  ·rename_i kk hk;exact ⟨kt,e,kk,hu,hk⟩
  ·cases h
 ·cases h
variable {e:Env}{rec:Rec}{o:Oper}{p:AOp}{v:AV}{s':St}
theorem Zk6 {op:BinOp}{yt:Nat}{x y:Operand}(hop:o.op=.binOp op ty x y yt) (he:Evs γ t ρ [x,y]) (hc:AH P o=some p)
 (h:AL p e rec t s=.ok v s'):T3 P γ s w ρ o p v s':=by
 simp only [AH,hop] at hc
 split at hc
 ·rename_i a b ha hb
  split at hc
  ·split at hc
   ·cases hc;exact .inr ⟨rfl,fun hs=>L2 hs ha hb hop he h⟩
   ·cases hc;exact .inr ⟨rfl,fun hs=>L2 hs ha hb hop he h⟩
   ·split at hc
    ·rename_i k hk
     cases hc;exact .inr ⟨rfl,fun hs=>UM hs (.inl ⟨rfl,rfl⟩) hk ha hb hop he h⟩
    ·obtain ⟨ks,hk,rfl⟩:=map_some hc
     exact .inr ⟨rfl,fun hs=>UL hs (.inl ⟨rfl,rfl⟩) hk ha hb hop he h⟩
  ·split at hc
   ·cases hc;exact .inr ⟨rfl,fun hs=>L2 hs ha hb hop he h⟩
   ·cases hc;exact .inr ⟨rfl,fun hs=>L2 hs ha hb hop he h⟩
   ·split at hc
    ·rename_i k hk
     cases hc;exact .inr ⟨rfl,fun hs=>UM hs (.inr ⟨rfl,rfl⟩) hk ha hb hop he h⟩
    ·obtain ⟨ks,hk,rfl⟩:=map_some hc
     exact .inr ⟨rfl,fun hs=>UL hs (.inr ⟨rfl,rfl⟩) hk ha hb hop he h⟩
  ·cases hc;exact .inr ⟨rfl,fun hs=>L2 hs ha hb hop he h⟩
 ·cases hc
theorem ZN {b:Builtin}{args:Array Operand}{ts:Array TypeId}(hop:o.op=.call { callee:=.builtin b,args:=args,argTypes:=ts }) (he:Evs γ t ρ args.toList)
 (hc:Nl P b ts.toList args.toList=some p) (h:AL p e rec t s=.ok v s'):T3 P γ s w ρ o p v s':=by
 unfold Nl at hc
 split at hc
 ·-- len
  rename_i x T hal htl
  obtain ⟨al⟩:=args;obtain ⟨tl⟩:=ts;simp only at hal htl;subst hal;subst htl
  split at hc
  ·cases hc;rename_i hu;exact .inr ⟨rfl,fun hs=>Zas (t:=t) hs hu hop h⟩
  ·obtain ⟨a,ha,rfl⟩:=map_some hc;rename_i hu;exact .inr ⟨rfl,fun hs=>Zb0 hs hu ha hop he h⟩
  ·obtain ⟨a,ha,rfl⟩:=map_some hc;rename_i hu;exact .inr ⟨rfl,fun hs=>ZV hs hu ha hop he h⟩
  ·cases hc
 ·obtain ⟨as,ha,rfl⟩:=map_some hc
  exact .inr ⟨rfl,fun hs=>Vq (mx:=false) hs ha hop he h⟩
 ·obtain ⟨as,ha,rfl⟩:=map_some hc
  exact .inr ⟨rfl,fun hs=>Vq (mx:=true) hs ha hop he h⟩
 ·-- cap
  rename_i x T hal htl
  obtain ⟨al⟩:=args;obtain ⟨tl⟩:=ts;simp only at hal htl;subst hal;subst htl
  split at hc
  ·obtain ⟨a,ha,rfl⟩:=map_some hc;rename_i hu;exact .inr ⟨rfl,fun hs=>Zco hs hu ha hop he h⟩
  ·cases hc
 ·-- append
  rename_i x y T U hal htl
  obtain ⟨al⟩:=args;obtain ⟨tl⟩:=ts;simp only at hal htl;subst hal;subst htl
  split at hc
  ·split at hc
   ·rename_i el kn sx xx hu hU hs' hx'
    split at hc
    ·rename_i n b z hn hb hz
     split at hc
     ·rename_i hcnd
      cases hc
      exact .inr ⟨rfl,fun hs=>Zaq hs hu hU hn hb hz hcnd.1 hcnd.2.1 hcnd.2.2 hs' hx' hop he h⟩
     ·cases hc
    ·cases hc
   ·cases hc
  ·rename_i hTU
   have hTU:T=U:=Classical.not_not.1 hTU
   subst hTU
   split at hc
   ·rename_i el sx xx hu hs' hx'
    split at hc
    ·rename_i n b z hn hb hz
     split at hc
     ·rename_i hcnd
      cases hc
      exact .inr ⟨rfl,fun hs=>Zcx hs hu hn hb hz hcnd.1 hcnd.2.1 hcnd.2.2 hs' hx' hop he h⟩
     ·cases hc
    ·cases hc
   ·cases hc
 ·-- copy
  rename_i x y T U hal htl
  obtain ⟨al⟩:=args;obtain ⟨tl⟩:=ts;simp only at hal htl;subst hal;subst htl
  split at hc
  ·rename_i el d sx hu hd hs'
   obtain ⟨n,hn,rfl⟩:=map_some hc
   exact .inr ⟨rfl,fun hs=>Zal hs hu hn hd hs' hop he h⟩
  ·cases hc
 ·-- delete
  rename_i x y T U hal htl
  obtain ⟨al⟩:=args;obtain ⟨tl⟩:=ts;simp only at hal htl;subst hal;subst htl
  split at hc
  ·rename_i kt ev m k hu hm hk
   split at hc
   ·rename_i kk hku
    cases hc
    exact .inr ⟨rfl,fun hs=>ZR hs hu hku hm hk hop he h⟩
   ·cases hc
  ·cases hc
 ·-- clear
  rename_i x T hal htl
  obtain ⟨al⟩:=args;obtain ⟨tl⟩:=ts;simp only at hal htl;subst hal;subst htl
  split at hc
  ·rename_i el a hu ha
   split at hc
   ·rename_i n z hn hz
    split at hc
    ·rename_i hcnd
     cases hc
     exact .inr ⟨rfl,fun hs=>Zcn hs hu hn hz hcnd.1 hcnd.2 ha hop he h⟩
    ·cases hc
   ·cases hc
  ·cases hc
 ·cases hc
theorem Vk (he:Evs γ t ρ o.op.operands.toList) (hc:AH P o=some p) (hp:RG p=false)
 (h:AL p e rec t s=.ok v s'):T3 P γ s w ρ o p v s':=by
 have hc0:=hc
 cases hop:o.op with
 | move x=>
  simp only [AH,hop] at hc;rw [hop] at he
  obtain ⟨a,ha,rfl⟩:=map_some hc
  exact .inr ⟨rfl,fun hs=>Vp hs ha (.inl hop) he h⟩
 | assign x=>
  simp only [AH,hop] at hc;rw [hop] at he
  obtain ⟨a,ha,rfl⟩:=map_some hc
  exact .inr ⟨rfl,fun hs=>Vp hs ha (.inr hop) he h⟩
 | pick c x y=>
  simp only [AH,hop] at hc;rw [hop] at he
  split at hc
  ·rename_i h1 h2 h3;cases hc;exact .inr ⟨rfl,fun hs=>ZM hs h1 h2 h3 hop he h⟩
  ·cases hc
 | alloc ty=>
  simp only [AH,hop] at hc
  split at hc
  ·rename_i n z hn hz;cases hc;exact .inl ⟨rfl,Zbt (t:=t) hn hz hop h⟩
  ·cases hc
 | box ty x=>
  simp only [AH,hop] at hc;rw [hop] at he
  split at hc
  ·rename_i n a hn ha;cases hc;exact .inl ⟨rfl,Zcq hn ha hop he h⟩
  ·cases hc
 | build ty parts=>
  simp only [AH,hop] at hc;rw [hop] at he
  have he':Evs γ t ρ (parts.toList.map (·.2)):=he
  split at hc
  ·rename_i z fs hz hu
   split at hc
   ·rename_i hall
    obtain ⟨as,ha,rfl⟩:=map_some hc
    refine .inr ⟨rfl,fun hs=>Ua hs hz (.inl ⟨fs,hu,fun f hf=>?_,ha⟩) hop he' h⟩
    have:=Zr7.1 hall f hf
    cases hq:A8 P f.type with
    | none=>rw [hq] at this;cases this
    | some n=>exact ⟨n,rfl⟩
   ·cases hc
  ·rename_i z n el hz hu
   split at hc
   ·rename_i m hm
    obtain ⟨as,ha,rfl⟩:=map_some hc
    exact .inr ⟨rfl,fun hs=>Ua hs hz (.inr ⟨n,el,m,hu,hm,ha⟩) hop he' h⟩
   ·cases hc
  ·cases hc
 | buildSlice ty n parts=>
  simp only [AH,hop] at hc;rw [hop] at he
  have he':Evs γ t ρ (parts.toList.map (·.2)):=he
  split at hc
  ·rename_i el hu
   split at hc
   ·rename_i m z hm hz
    split at hc
    ·rename_i hcnd
     obtain ⟨as,ha,rfl⟩:=map_some hc
     exact .inl ⟨rfl,Zcp hu hm hz hcnd.1 hcnd.2.1 hcnd.2.2 ha hop he' h⟩
    ·cases hc
   ·cases hc
  ·cases hc
 | load ty x=>
  simp only [AH,hop] at hc;rw [hop] at he
  split at hc
  ·rename_i n a hag hn ha;cases hc;exact .inr ⟨rfl,fun hs=>Zb1 hs hag hn ha hop he h⟩
  ·rename_i a hag ha;cases hc;exact .inr ⟨rfl,fun hs=>Zb2 hs hag ha hop he h⟩
  ·cases hc
 | store ty x y=>
  simp only [AH,hop] at hc;rw [hop] at he
  split at hc
  ·rename_i n a b hd hn ha hb;cases hc;exact .inr ⟨rfl,fun hs=>Zdt hs hd hn ha hb hop he h⟩
  ·cases hc
 | nilCheck x=>
  simp only [AH,hop] at hc;rw [hop] at he
  obtain ⟨a,ha,rfl⟩:=map_some hc
  exact .inr ⟨rfl,fun hs=>Zr hs ha hop he h⟩
 | binOp op ty x y yt=>rw [hop] at he;exact Zk6 hop he hc0 h
 | unOp op ty x=>
  simp only [AH,hop] at hc;rw [hop] at he
  obtain ⟨a,ha,rfl⟩:=map_some hc
  exact .inr ⟨rfl,fun hs=>Zdm hs ha hop he h⟩
 | convert sr ds x=>
  simp only [AH,hop] at hc;rw [hop] at he
  split at hc
  ·rename_i a h1 h2 ha;cases hc;exact .inr ⟨rfl,fun hs=>Zcm hs h1 h2 ha hop he Ez h⟩
  ·rename_i el a h1 h2 ha
   split at hc
   ·rename_i h8;cases hc;exact .inr ⟨rfl,fun hs=>Zcs hs h1 h2 h8 ha hop he h⟩
   ·cases hc
  ·cases hc
 | makeFunc f as bs=>
  cases f with
  | func f=>
   simp only [AH,hop] at hc;rw [hop] at he
   split at hc
   ·rename_i h1 h2;cases hc
    exact .inr ⟨rfl,fun hs=>ZP hs h1 h2 hop (by simpa [Op.operands] using he) h⟩
   ·cases hc
  | _=>simp only [AH,hop] at hc;cases hc
 | makeMap ty r=>
  cases r with
  | none=>simp only [AH,hop] at hc;cases hc;exact .inl ⟨rfl,Zs (t:=t) hop h⟩
  | some r=>simp only [AH,hop] at hc;cases hc
 | makeSlice ty l c=>
  simp only [AH,hop] at hc;rw [hop] at he
  split at hc
  ·rename_i el a b hu h1 h2
   split at hc
   ·rename_i n by_ z hn hb hz
    split at hc
    ·rename_i hcnd;cases hc
     exact .inl ⟨rfl,Zbw hu hn hb hz hcnd.1 hcnd.2.1 hcnd.2.2 h1 h2 hop he h⟩
    ·cases hc
   ·cases hc
  ·cases hc
 | slice ty x lo hi mx=>
  simp only [AH,hop] at hc;rw [hop] at he
  have he':Evs γ t ρ ([x]++lo.toList++hi.toList++mx.toList):=by simpa [Op.operands] using he
  split at hc
  ·rename_i el a alo ahi amx hu ha h1 h2 h3
   split at hc
   ·cases hc
   ·rename_i hcnd
    obtain ⟨n,hn,rfl⟩:=map_some hc
    refine .inr ⟨rfl,fun hs=>Zbi hs hu hn ha h1 h2 h3 ?_ hop he' h⟩
    intro hm
    rw [hm] at hcnd
    cases ahi with
    | none=>exact absurd rfl hcnd
    | some q=>rfl
  ·rename_i n el a alo ahi amx hu ha h1 h2 h3
   split at hc
   ·cases hc
   ·rename_i hcnd
    obtain ⟨m,hm,rfl⟩:=map_some hc
    refine .inr ⟨rfl,fun hs=>Zbj hs hu hm ha h1 h2 h3 ?_ hop he' h⟩
    intro hmx
    cases mx with
    | none=>cases hmx
    | some mo=>
     obtain ⟨am,_,ham⟩:=map_some (show (Af mo).map some=some amx from h3)
     subst ham
     cases hi with
     | none=>cases h2;simp at hcnd
     | some ho=>rfl
  ·cases hc
 | fieldAddr ty x f=>
  simp only [AH,hop] at hc;rw [hop] at he
  split at hc
  ·rename_i fs a hu ha
   split at hc
   ·rename_i fd hf
    split at hc
    ·rename_i n hn;cases hc;exact .inr ⟨rfl,fun hs=>Ze7 hs hu hf hn ha hop he h⟩
    ·cases hc
   ·cases hc
  ·cases hc
 | field ty x f=>
  simp only [AH,hop] at hc;rw [hop] at he
  split at hc
  ·rename_i fs a hu ha
   split at hc
   ·rename_i fd hf
    split at hc
    ·rename_i n hag hn;cases hc;exact .inr ⟨rfl,fun hs=>Zad hs hu hf hag hn ha hop he h⟩
    ·rename_i hag;cases hc;exact .inr ⟨rfl,fun hs=>Zae hs hu hf hag ha hop he h⟩
    ·cases hc
   ·cases hc
  ·cases hc
 | indexAddr ty x i=>
  simp only [AH,hop] at hc;rw [hop] at he
  split at hc
  ·rename_i el a b hu ha hb
   obtain ⟨n,hn,rfl⟩:=map_some hc
   exact .inr ⟨rfl,fun hs=>Zb6 hs hu hn ha hb hop he h⟩
  ·rename_i m el a b hu ha hb
   obtain ⟨n,hn,rfl⟩:=map_some hc
   exact .inr ⟨rfl,fun hs=>Zb7 hs hu hn ha hb hop he h⟩
  ·cases hc
 | index ty x i=>
  simp only [AH,hop] at hc;rw [hop] at he
  split at hc
  ·rename_i m el a b hu ha hb
   split at hc
   ·rename_i hn hag;cases hc;exact .inr ⟨rfl,fun hs=>Zb5 hs hu hn hag ha hb hop he h⟩
   ·rename_i hn hag;cases hc;exact .inr ⟨rfl,fun hs=>Zac hs hu hn hag ha hb hop he h⟩
   ·cases hc
  ·cases hc
 | extract x i=>
  simp only [AH,hop] at hc;rw [hop] at he
  obtain ⟨a,ha,rfl⟩:=map_some hc
  exact .inr ⟨rfl,fun hs=>Zcf hs ha hop he h⟩
 | lookup ty m k ok=>
  simp only [AH,hop] at hc;rw [hop] at he
  split at hc
  ·rename_i kt' el a b hu ha hb
   split at hc
   ·rename_i hik
    obtain ⟨kt,e2,kk,hu2,hku⟩:=Qc hik
    rw [hu2] at hu;cases hu
    split at hc
    ·rename_i i hi
     split at hc
     ·rename_i z hz
      obtain ⟨zz,hzz,rfl⟩:=map_some hc
      exact .inr ⟨rfl,fun hs=>ZQ hs hu2 hku hi hz hzz ha hb hop he h⟩
     ·cases hc
    ·cases hc
   ·cases hc
  ·cases hc
 | mapUpdate ty m k v'=>
  simp only [AH,hop] at hc;rw [hop] at he
  split at hc
  ·rename_i a b c hd ha hb hcc
   split at hc
   ·rename_i hik
    obtain ⟨kt,e2,kk,hu2,hku⟩:=Qc hik
    cases hc
    exact .inr ⟨rfl,fun hs=>Ui hs hd hu2 hku ha hb hcc (.inl hop) he h⟩
   ·split at hc
    ·rename_i hpk
     cases hc
     exact .inr ⟨rfl,fun hs=>TU hs hd hpk ha hb hcc (.inl hop) he h⟩
    ·cases hc
  ·cases hc
 | insert ty m k v'=>
  simp only [AH,hop] at hc;rw [hop] at he
  split at hc
  ·rename_i a b c hd ha hb hcc
   split at hc
   ·rename_i hik
    obtain ⟨kt,e2,kk,hu2,hku⟩:=Qc hik
    cases hc
    exact .inr ⟨rfl,fun hs=>Ui hs hd hu2 hku ha hb hcc (.inr hop) he h⟩
   ·split at hc
    ·rename_i hpk
     cases hc
     exact .inr ⟨rfl,fun hs=>TU hs hd hpk ha hb hcc (.inr hop) he h⟩
    ·cases hc
  ·cases hc
 | range ty x=>
  simp only [AH,hop] at hc;rw [hop] at he
  split at hc
  ·rename_i hT
   obtain ⟨a,ha,rfl⟩:=map_some hc
   exact .inr ⟨rfl,fun hs=>ZK hs hT ha hop he h⟩
  ·cases hc
 | entry x=>
  simp only [AH,hop] at hc;rw [hop] at he
  obtain ⟨a,ha,rfl⟩:=map_some hc
  exact .inr ⟨rfl,fun hs=>Zah hs ha hop he h⟩
 | next x str=>
  cases str with
  | true=>simp only [AH,hop] at hc;cases hc
  | false=>
   simp only [AH,hop] at hc
   obtain ⟨a,ha,rfl⟩:=map_some hc
   cases h
 | call c=>
  obtain ⟨cal,args,ts⟩:=c
  cases cal with
  | value f=>
   exfalso
   simp only [AH,hop] at hc
   split at hc
   ·obtain ⟨as,_,rfl⟩:=map_some hc;cases hp
   ·split at hc
    ·cases hc;cases hp
    ·cases hc
   ·rename_i hq;cases hq
   ·rename_i hq;cases hq
  | builtin b=>
   simp only [AH,hop] at hc;rw [hop] at he
   exact ZN hop (by simpa [Op.operands,Call.operands] using he) hc h
  | invoke r m=>
   exfalso
   simp only [AH,hop] at hc
   split at hc
   ·cases hc;cases hp
   ·cases hc
 | makeInterface ty x=>
  simp only [AH,hop] at hc;rw [hop] at he
  split at hc
  ·rename_i hT
   obtain ⟨a,ha,rfl⟩:=map_some hc
   exact .inr ⟨rfl,fun hs=>Zbx hs hT ha hop he h⟩
  ·cases hc
 | typeAssert x xt ty ok=>
  cases ok with
  | false=>simp only [AH,hop] at hc;cases hc
  | true=>
   simp only [AH,hop] at hc;rw [hop] at he
   split at hc
   ·rename_i hT
    split at hc
    ·rename_i i hi
     split at hc
     ·rename_i z hz
      split at hc
      ·rename_i a zv ha hzv
       cases hc
       exact .inr ⟨rfl,fun hs=>Zbd hs hT hi hz hzv ha hop he h⟩
      ·cases hc
     ·cases hc
    ·cases hc
   ·cases hc
 | _=>simp only [AH,hop] at hc;cases hc
theorem TF (h:Il P o=some p):AH P o=some p∨p=.bad:=by
 unfold Il at h
 cases hc:AH P o with
 | none=>rw [hc] at h;cases h;exact .inr rfl
 | some q=>rw [hc] at h;cases h;exact .inl rfl
end
end Go.AM
namespace Go.AM
def BP:Option Nat→Fence
 | none=>Fence.wide
 | some b=>Fence.wide.inRound b
theorem Qz (b:Option Nat):(BP b).round=b:=by cases b <;> rfl
theorem Ik (b:Option Nat) (f:FuncId):(BP b).fn f:=by cases b <;> trivial
theorem Lz (b:Option Nat) (n:Nat):(BP b).depth.isSome=true→1≤n:=by cases b <;> (intro h;cases h)
def MJ:Ex→Exit
 | .normal=>.normal
 | .exit id=>.exit id
 | .ret=>.ret
def DR (γ:Gam) (ds:List Nat) (l:List Deferred):Prop:=All2 (fun d D=>∃ L,γ d=some L∧D={ target:=.collected L.b,args:=#[] }) ds l
variable {γ γ':Gam}
theorem DR.mono (h:Le γ γ') {ds:List Nat}{l:List Deferred}(hd:DR γ ds l):DR γ' ds l:=hd.imp fun _ _ ⟨L,a,b⟩=>⟨L,h.loc _ _ a,b⟩
def RD (γ:Gam) (rd b:Option Nat):Prop:=match rd with
 | none=>b=none
 | some l=>∃ L,γ l=some L∧b=some L.b
theorem RD.mono (h:Le γ γ') {rd b:Option Nat}(hd:RD γ rd b):RD γ' rd b:=by
 cases rd with
 | none=>exact hd
 | some l=>obtain ⟨L,a,e⟩:=hd;exact ⟨L,h.loc _ _ a,e⟩
def Di (P:Program) (γ0:Gam) (s0:St) (w0:World) (N:Nat) (x:Ex) (t':AT) (s':St) (ds':List Nat):Exit→Act→World→Prop:=
 fun e a' w'=>e=MJ x∧N≤a'.tmps.size∧∃ γ',Stp γ0 s0 w0 γ' s' w'∧Sim P γ' s' w'∧TR γ' t' a'.tmps∧DR γ' ds' a'.defers
def E1 (P:Program) (γ:Gam) (s:St) (w:World) (v:AV) (s':St):Ending→World→Prop:=
 fun e w'=>∃ v' γ',e=.returned v'∧Stp γ s w γ' s' w'∧Sim P γ' s' w'∧VR γ' v v'
def D8 (P:Program) (n:Nat) (rec:Rec):Prop:=
 ∀ (N:Nat) (c:Code) (ac:AC) (γ:Gam) (t:AT) (s:St) (w:World) (a:Act) (rd b:Option Nat) (ds:List Nat) (x:Ex) (t':AT) (s':St) (ds':List Nat) (γ0:Gam) (s0:St) (w0:World) (m:Nat),
  AZ P N c=some ac→N≤a.tmps.size→TR γ t a.tmps→Sim P γ s w→RD γ0 rd b→DR γ ds a.defers→Stp γ0 s0 w0 γ s w→rec ac t s rd ds=.ok x t' s' ds'→
  c.wpIn (BP b) m P (Di P γ0 s0 w0 N x t' s' ds') a w∧∀ c',c=.loop c'→Code.roundsIn (BP b) m P c' (Di P γ0 s0 w0 N x t' s' ds') n a w
structure EnvOk (P:Program) (e:Env):Prop where
 G : ∀ f af, e.G.get f = some af → ∃ fn, P.funcs[f]? = some fn ∧ FP P fn = some af ∧ (fn.name == "runtime.NumGoroutine") = false
 O : ∀ f h, e.O.get f = some h → (∃ fn c, P.funcs[f]? = some fn ∧ fn.body = some c ∧ (fn.name == "runtime.NumGoroutine") = false) ∧
  ∀ γ args vals s w v s',All2 (VR γ) args vals→Sim P γ s w→h args s=.ok v s'→∀ m,CallsIn Fence.wide m P f vals.toArray w (E1 P γ s w v s')
 X:∀ f h,e.X.get f=some h→∀ γ args vals s w v s',All2 (VR γ) args vals→Sim P γ s w→h args s=.ok v s'→
  ∃ v' γ' w',(callFunc f vals.toArray).run P w=.ok (.value v') w'∧Stp γ s w γ' s' w'∧Sim P γ' s' w'∧VR γ' v v'
section
variable {P:Program}{γ:Gam}{s:St}{w:World}{t:AT}
variable {tm:Array Value}{i:Nat}{v:AV}{v':Value}
theorem TR.set (h:TR γ t tm) (hi:i<tm.size) (hv:VR γ v v'):TR γ (t.set v i) (tm.setIfInBounds i v'):=by
 intro j u hu
 rw [Zrn]
 rcases FB hu with ⟨rfl,rfl⟩|⟨hne,hu⟩
 ·rw [Zqd rfl,Zqd hi];exact ⟨v',rfl,hv⟩
 ·rw [Zqh (fun e=>hne e.symm)];exact h j u hu
variable {a:Act}{N n:Nat}
theorem TR.put (h:TR γ t a.tmps) {d:Option Tmp}(hN:N≤a.tmps.size) (hd:E3 N d=some n) (hv:VR γ v v'∨d=none):TR γ (BF n v t) (a.put d v').tmps:=by
 cases d with
 | none=>cases hd;exact h
 | some d=>
  simp only [E3] at hd
  split at hd
  ·rename_i hlt;cases hd
   exact h.set (Zr2 hlt hN) (hv.resolve_right (by simp))
  ·cases hd
theorem NH (a:Act) (d:Option Tmp) (v:Value):(a.put d v).tmps.size=a.tmps.size:=by cases d <;> simp [Act.put]
theorem Np (a:Act) (d:Option Tmp) (v:Value):(a.put d v).defers=a.defers:=by cases d <;> rfl
theorem Vc:VR γ (.tup []) undef:=.tup _ _ .nil
theorem UZ (h:TR γ t a.tmps) (xs:List Operand):Evs γ t a.eval xs:=by
 intro x _ y v hy hv
 unfold Af at hy
 split at hy
 ·rename_i i _
  cases hy
  change (Option.rec .none (fun v=>.some v) (t.get i):OV)=.some v at hv
  cases hg:t.get i with
  | none=>rw [hg] at hv;cases hv
  | some u=>
   rw [hg] at hv;cases hv
   obtain ⟨v',h1,h2⟩:=h i v hg
   show VR γ v (a.tmps.getD i undef)
   rw [Zrb,h1];exact h2
 ·obtain ⟨u,hu,rfl⟩:=map_some hy
  cases hv;exact Ss hu
 ·cases hy;cases hv;exact .fn _ _ _ _ _ .nil .nil
 ·cases hy
theorem OL (h:TR γ t a.tmps) {x:Operand}{y:AO}(hx:Af x=some y) (hv:ev y t=.some v):VR γ v (a.eval x):=
 UZ h [x] x (by simp) y v hx hv
theorem YW (h:TR γ t a.tmps) {ops:Array Oper}{o:Oper}{g:Option (Nat×Bool)}(hg:Gl ops N o.guard=some g):
 (AN g t=2→Region.wanted o (yielded ops a.tmps)=true)∧(AN g t=1→Region.wanted o (yielded ops a.tmps)=false):=by
 unfold Gl at hg
 unfold Region.wanted
 split at hg
 ·rename_i hgo;cases hg;rw [hgo];exact ⟨fun _=>rfl,fun h=>(by cases h)⟩
 ·rename_i j b hgo
  rw [hgo]
  split at hg
  ·rename_i d hd;cases hg
   show ((Option.rec 0 (fun v=>BR.rec (Bool.rec 1 0 (Bu v)) (Bool.rec 1 2 b) (Bool.rec 2 1 b) (asBool v)) (t.get d):Nat)=2→(yielded ops a.tmps j == some b)=true)∧((Option.rec 0 (fun v=>BR.rec (Bool.rec 1 0 (Bu v)) (Bool.rec 1 2 b) (Bool.rec 2 1 b) (asBool v)) (t.get d):Nat)=1→(yielded ops a.tmps j == some b)=false)
   cases hgt:t.get d with
   | none=>exact ⟨fun h=>(by cases h),fun h=>(by cases h)⟩
   | some v=>
    obtain ⟨v',h1,h2⟩:=h d v hgt
    simp only [yielded,hd,Option.bind_some,h1]
    cases h2 <;> first|(cases b <;> rename_i q <;> cases q <;> simp [asBool,Bu])|(cases b <;> simp [asBool,Bu])
  ·cases hg
variable {ty r o:Nat}{p:Value}
theorem Zv (hs:Sim P γ s w) (hag:CV P ty=some false) (hp:VR γ (.ptr r o) p) (h:load1 r o s=some v):
 ∃ v',(do loadVar ty (← asAddr p):Sem Value).run P w=.ok v' w∧VR γ v v':=by
 obtain ⟨L,hL,rfl⟩:=Iy hp
 obtain ⟨v',hc,hR,_⟩:=TW hs h hL
 refine ⟨v',?_,hR⟩
 simp only [asAddr,Zqj,Zqp,Zqc,loadVar,HL hag]
 simp [run_load,hc]
theorem Za (hs:Sim P γ s w) {cs:List AV}(hag:CV P ty=some true) (hn:A8 P ty=some n) (hp:VR γ (.ptr r o) p) (h:load r o n s=some cs):
 ∃ v',(do loadVar ty (← asAddr p):Sem Value).run P w=.ok v' w∧VR γ (.agg cs) v':=by
 obtain ⟨L,hL,rfl⟩:=Iy hp
 obtain ⟨vs,e1,hc,hR,h1⟩:=II hs h hL
 have hrun:=run_loadCells_list (P:=P) w _ vs hc
 rw [e1] at hrun
 refine ⟨.agg vs.toArray,?_,.agg _ _ hR h1⟩
 simp only [asAddr,Zqj,Zqp,Zqc,loadVar,HL hag,C7 hn,hrun,if_true]
def O2 (tm:Array Value):ResultVar→Sem Value
 | .tmp t=>pure (tm.getD t undef)
 | .cell a t=>do loadVar t (← asAddr (tm.getD a undef))
theorem Rg (h:TR γ t tm) (hg:t.get i=some v):VR γ v (tm.getD i undef):=by
 obtain ⟨v',h1,h2⟩:=h i v hg
 rw [Zrb,h1];exact h2
theorem ZL (hs:Sim P γ s w) (h:TR γ t tm) {r:ResultVar}{x:ARes}
 (hx:(match r with
   | .tmp t=>some (.tmp t)
   | .cell a t=>match CV P t,A8 P t with
    | some true,some n=>some (.cells a n)
    | some false,_=>some (.cell a)
    | _,_=>none:Option ARes)=some x) (hr:OU t s x=some v):∃ v',(O2 tm r).run P w=.ok v' w∧VR γ v v':=by
 cases r with
 | tmp i=>cases hx;exact ⟨_,rfl,Rg h hr⟩
 | cell i ty=>
  simp only at hx
  split at hx
  ·rename_i n hag hn
   cases hx
   change (Option.rec none (fun v=>PR.rec none (fun r o=>Option.rec none (fun cs=>some (.agg cs)) (load r o n s)) (fun _=>none) (Bk v)) (t.get i):Option AV)=some v at hr
   cases hg:t.get i with
   | none=>rw [hg] at hr;cases hr
   | some pv=>
    rw [hg] at hr
    change (PR.rec none (fun r o=>Option.rec none (fun cs=>some (.agg cs)) (load r o n s)) (fun _=>none) (Bk pv):Option AV)=some v at hr
    cases hp:Bk pv with
    | no=>rw [hp] at hr;cases hr
    | fp l=>rw [hp] at hr;cases hr
    | ptr q o=>
     rw [hp] at hr
     have hpv:=LD hp;subst hpv
     change (Option.rec none (fun cs=>some (.agg cs)) (load q o n s):Option AV)=some v at hr
     cases hl:load q o n s with
     | none=>rw [hl] at hr;cases hr
     | some cs=>rw [hl] at hr;cases hr;exact Za hs hag hn (Rg h hg) hl
  ·rename_i hag
   cases hx
   change (Option.rec none (fun v=>PR.rec none (fun r o=>load1 r o s) (fun _=>none) (Bk v)) (t.get i):Option AV)=some v at hr
   cases hg:t.get i with
   | none=>rw [hg] at hr;cases hr
   | some pv=>
    rw [hg] at hr
    change (PR.rec none (fun r o=>load1 r o s) (fun _=>none) (Bk pv):Option AV)=some v at hr
    cases hp:Bk pv with
    | no=>rw [hp] at hr;cases hr
    | fp l=>rw [hp] at hr;cases hr
    | ptr q o=>
     rw [hp] at hr
     have hpv:=LD hp;subst hpv
     exact Zv hs hag (Rg h hg) hr
  ·cases hx
theorem YU (hs:Sim P γ s w) (h:TR γ t tm):∀ (rs:List ResultVar) (res:List ARes) (l:List AV),Kf P rs=some res→Dg t s res=some l→
 ∃ vs,(rs.mapM (O2 tm)).run P w=.ok vs w∧All2 (VR γ) l vs:=by
 intro rs
 induction rs with
 | nil=>intro res l h1 h2;cases h1;cases h2;exact ⟨[],rfl,.nil⟩
 | cons r rs ih=>
  intro res l h1 h2
  unfold Kf at h1
  split at h1
  ·rename_i x y hx hy
   cases h1
   change (Option.rec none (fun v=>Option.rec none (fun vs=>some (v::vs)) (Dg t s y)) (OU t s x):Option (List AV))=some l at h2
   cases hr:OU t s x with
   | none=>rw [hr] at h2;cases h2
   | some v=>
    rw [hr] at h2
    cases hq:Dg t s y with
    | none=>rw [hq] at h2;cases h2
    | some vs=>
     rw [hq] at h2;cases h2
     obtain ⟨us,e1,e2⟩:=ih y vs hy hq
     obtain ⟨v',f1,f2⟩:=ZL hs h hx hr
     refine ⟨v'::us,?_,.cons f2 e2⟩
     rw [List.mapM_cons]
     simp only [Zqj,Zqp,f1,Zqc,e1]
  ·cases h1
theorem YS (hs:Sim P γ s w) (h:TR γ t tm) {fn:Func}{res:List ARes}{l:List AV}(hc:Kf P fn.results.toList=some res) (hr:Dg t s res=some l):
 ∃ v',(results fn tm).run P w=.ok v' w∧VR γ (one l) v':=by
 obtain ⟨vs,h1,h2⟩:=YU hs h _ _ _ hc hr
 have hm:(fn.results.mapM (O2 tm)).run P w=.ok vs.toArray w:=by
  rw [Array.mapM_eq_mapM_toList]
  simp only [map_eq_pure_bind,Zqj,h1,Zqc,Zqp]
 have hres:results fn tm=(fn.results.mapM (O2 tm) >>= fun vs=>pure (if h:vs.size=1 then vs[0] else .tuple vs)):=rfl
 rw [hres]
 simp only [Zqj,hm,Zqc,Zqp]
 refine ⟨_,rfl,?_⟩
 cases h2 with
 | nil=>simp;exact .tup _ _ .nil
 | @cons x u l' us' hx hl=>
  cases hl with
  | nil=>simp;exact hx
  | @cons x2 u2 l2 us2 hx2 hl2=>simp;exact .tup _ _ (.cons hx (.cons hx2 hl2))
end
end Go.AM
namespace Go.AM
section
variable {P:Program}{γ:Gam}{s:St}{w:World}{t:AT}{e:Env}{rec:Rec}{n:Nat}
variable {v:AV}{s':St}
theorem PY {k:Ex→AT→St→List Nat→RV}{r:R}(h:(R.rec .fail k r:RV)=.ok v s'):∃ x t1 s1 ds,r=.ok x t1 s1 ds∧k x t1 s1 ds=.ok v s':=by
 cases r with
 | fail=>cases h
 | ok x t1 s1 ds=>exact ⟨x,t1,s1,ds,rfl,h⟩
variable {l:Nat}
theorem Ms {k:LoopState→Option Nat→Nat→AT→List Nat→AC→AC→Nat→RV}(h:(LP.rec .fail k (CP l s):RV)=.ok v s'):
 ∃ st pend fn tm ps asg body d,s.get l=some (.loop st pend fn tm ps asg body d)∧k st pend fn tm ps asg body d=.ok v s':=by
 unfold CP at h
 cases hg:s.get l with
 | none=>rw [hg] at h;cases h
 | some o=>
  rw [hg] at h
  cases o with
  | loop st pend fn tm ps asg body d=>exact ⟨st,pend,fn,tm,ps,asg,body,d,rfl,h⟩
  | _=>cases h
variable {b:Nat}
theorem YK (h:w.heap[b]?=some (.deferred (some []))):(Instr.takeDeferred b).run P w=.ok [] { w with heap:=w.heap.setIfInBounds b (.deferred none) }:=by
 have h1:(getObj b).run P w=.ok (.deferred (some [])) w:=by simp only [getObj,Sem.run];rw [h]
 have h2:∀ o,(setObj b o).run P w=.ok () { w with heap:=w.heap.setIfInBounds b o }:=fun o=>by simp only [setObj,Sem.run];rw [h]
 simp only [Instr.takeDeferred,Zqj,h1,h2,Zqc,Zqp]
theorem TC {fn:Func}{tm:Array Value}{res:List ARes}{l:List AV}{γ0:Gam}{s0:St}{w0:World}(hc:Kf P fn.results.toList=some res) {s2:St}{R:Ending→World→Prop}(hR:∀ e w',E1 P γ0 s0 w0 (one l) s2 e w'→R e w') (m:Nat):∀ (ds:List Nat) (D:List Deferred) (s:St) (w:World),
 DR γ ds D→Fy ds s=some s2→Sim P γ s w→Stp γ0 s0 w0 γ s w→TR γ t tm→Dg t s2 res=some l→
 LeavesInM Fence.wide m P fn tm R D .returning w:=by
 intro ds
 induction ds with
 | nil=>
  intro D s w hD hq hs hst ht hr
  cases hD
  cases hq
  obtain ⟨v',h1,h2⟩:=YS hs ht hc hr
  exact ⟨v',h1,hR _ _ ⟨v',γ,rfl,hst,hs,h2⟩⟩
 | cons d ds ih=>
  intro D s w hD hq hs hst ht hr
  cases hD with
  | cons hd hD=>
   obtain ⟨L,hL,rfl⟩:=hd
   change (Option.rec none (fun o=>AObj.rec (fun _ _=>none) none (fun _ _=>none) (fun _ _ _ _ _ _ _ _=>none) (Fy ds (s.put d .dead)) (fun _ _ _ _=>none) o) (s.get d):Option St)=some s2 at hq
   cases hg:s.get d with
   | none=>rw [hg] at hq;cases hq
   | some o=>
    rw [hg] at hq
    cases o with
    | defd=>
     have hb:w.heap[L.b]?=some (.deferred (some [])):=hs.obj d _ L hg hL
     obtain ⟨hst1,hs1⟩:=hs.turn (w':={ w with heap:=w.heap.setIfInBounds L.b (.deferred none) }) (o:=.dead) hg hL rfl
      (fun b hb=>by show (w.heap.setIfInBounds L.b _)[b]?=_;rw [Zrn,Zqh (fun e=>hb e.symm)]) (by simp) rfl rfl rfl trivial
     refine ⟨by simp,.inl ⟨L.b,_,rfl,YK hb,ih _ _ _ hD hq hs1 (hst.trans hst1) ht hr⟩⟩
    | _=>cases hq
theorem Vx:∀ (args:List AV) (vals:List Value) (tm:Array Value) (i:Nat) (t:AT),All2 (VR γ) args vals→TR γ t tm→(∀ j v,vals[j]?=some v→tm[i+j]?=some v)→TR γ (Ah args i t) tm:=by
 intro args
 induction args with
 | nil=>intro vals tm i t h ht _;exact ht
 | cons x args ih=>
  intro vals tm i t h ht hv
  cases h with
  | @cons _ u _ us hx hr=>
   refine ih us tm (i+1) (t.set x i) hr ?_ (fun j v hj=>?_)
   ·intro k y hy
    rcases FB hy with ⟨rfl,rfl⟩|⟨_,hy⟩
    ·exact ⟨u,by simpa using hv 0 u (by simp),hx⟩
    ·exact ht k y hy
   ·have:=hv (j+1) v (by simpa using hj)
    rw [Zr6,Nat.add_comm 1 j];exact this
theorem XS (tm:Array Value):TR γ .lf tm:=by intro i v h;cases h
variable {f:Nat}{args:List AV}{vals:List Value}
theorem TX (hG:D8 P n rec) (hE:EnvOk P e) (hA:All2 (VR γ) args vals) (hs:Sim P γ s w) (h:Ft e rec f args s=.ok v s'):
 (∃ fn c, P.funcs[f]? = some fn ∧ fn.body = some c ∧ (fn.name == "runtime.NumGoroutine") = false) ∧ ∀ m, CallsIn Fence.wide m P f vals.toArray w (E1 P γ s w v s') := by
 unfold Ft at h
 obtain ⟨af,hg,h⟩:=AI h
 obtain ⟨fn,hf,hcF,hname⟩:=hE.G f af hg
 unfold FP at hcF
 split at hcF
 ·rename_i b hb
  split at hcF
  ·rename_i cd rs hcd hrs
   cases hcF
   refine ⟨⟨fn,b,hf,hb,hname⟩,fun m=>?_⟩
   change Kh rs (rec cd (Ah args 0 .lf) s none [])=.ok v s' at h
   unfold Kh at h
   obtain ⟨x,t1,s1,ds,hrec,h⟩:=PY h
   refine callsIn_of_wp_marks hf hb trivial ?_
   have hTR:TR γ (Ah args 0 .lf) (vals.toArray++Array.replicate (fn.ntmps-vals.toArray.size) undef):=by
    refine Vx args vals _ 0 .lf hA (XS _) ?_
    intro j u hj
    rw [Zqo,Array.getElem?_append]
    have hlt:=(Zqa.1 hj).1
    rw [Zqd (by simpa using hlt)]
    simpa using hj
   have hsz:fn.ntmps≤(vals.toArray++Array.replicate (fn.ntmps-vals.toArray.size) undef).size:=by simp;omega
   have hw:=(hG fn.ntmps b cd γ _ s w { tmps:=vals.toArray++Array.replicate (fn.ntmps-vals.toArray.size) undef,defers:=[] } none none [] x t1 s1 ds γ s w m hcd hsz hTR hs rfl .nil (.refl _ _ _) hrec).1
   refine wpIn_mono hw ?_
   rintro ex a' w' ⟨rfl,_,γ',hst,hsim,ht,hd⟩
   have fin:∀ {k:RV},(Option.rec .fail (fun s=>Option.rec .fail (fun l=>.ok (one l) s) (Dg t1 s rs)) (Fy ds s1):RV)=.ok v s'→LeavesInM Fence.wide m P fn a'.tmps (E1 P γ s w v s') a'.defers .returning w':=by
    intro _ h
    obtain ⟨s2,hq,h⟩:=AI h
    obtain ⟨l,hl,h⟩:=AI h
    obtain ⟨rfl,rfl⟩:=Az h
    exact TC hrs (fun _ _ h=>h) m ds a'.defers s1 w' hd hq hsim hst ht hl
   cases x with
   | normal=>exact fin (k:=.fail) h
   | ret=>exact fin (k:=.fail) h
   | exit id=>cases h
  ·cases hcF
 ·cases hcF
theorem Nn (hG:D8 P n rec) (hE:EnvOk P e) (hA:All2 (VR γ) args vals) (hs:Sim P γ s w) (h:Co e rec f args s=.ok v s'):
 (∃ fn c, P.funcs[f]? = some fn ∧ fn.body = some c ∧ (fn.name == "runtime.NumGoroutine") = false) ∧ ∀ m, CallsIn Fence.wide m P f vals.toArray w (E1 P γ s w v s') := by
 unfold Co at h
 cases ho:e.O.get f with
 | some hh=>
  rw [ho] at h
  obtain ⟨h1,h2⟩:=hE.O f hh ho
  change (RV.rec (Ft e rec f args s) (fun v s'=>.ok v s') (hh args s):RV)=.ok v s' at h
  cases hq:hh args s with
  | fail=>rw [hq] at h;exact TX hG hE hA hs h
  | ok v1 s1=>
   rw [hq] at h
   obtain ⟨rfl,rfl⟩:=Az h
   exact ⟨h1,fun m=>h2 γ args vals s w _ _ hA hs hq m⟩
 | none=>rw [ho] at h;exact TX hG hE hA hs h
theorem Zdw:∀ (ps:List Nat) (args:List AV) (vals:List Value) (tm:Array Value) (t:AT),All2 (VR γ) args vals→args.length=ps.length→(∀ p ∈ ps,p<tm.size)→TR γ t tm→
 TR γ (K4 ps args t) ((ps.zip vals).foldl (fun tmps (t,a)=>tmps.setIfInBounds t a) tm)∧((ps.zip vals).foldl (fun tmps (t,a)=>tmps.setIfInBounds t a) tm).size=tm.size:=by
 intro ps
 induction ps with
 | nil=>intro args vals tm t hA hl _ ht;exact ⟨ht,rfl⟩
 | cons p ps ih=>
  intro args vals tm t hA hl hp ht
  cases hA with
  | nil=>simp at hl
  | @cons x u xs us hx hr=>
   have:=ih xs us (tm.setIfInBounds p u) (t.set x p) hr (by simpa using hl) (fun q hq=>by simpa using hp q (by simp [hq])) (ht.set (hp p (by simp)) hx)
   simp only [List.zip_cons_cons,List.foldl_cons]
   refine ⟨this.1,this.2.trans (by simp)⟩
variable {lp:Loop}
theorem JD (h:w.heap[b]?=some (.loop lp)):(Instr.getLoop b).run P w=.ok lp w:=by
 have h1:(getObj b).run P w=.ok (.loop lp) w:=by simp only [getObj,Sem.run];rw [h]
 simp only [Instr.getLoop,Zqj,h1,Zqc,Zqp]
theorem Nh (o:Obj) (h:w.heap[b]?=some (.loop lp)):(setObj b o).run P w=.ok () { w with heap:=w.heap.setIfInBounds b o }:=by
 simp only [setObj,Sem.run];rw [h]
variable {L:Loc}
theorem N5 (hs:Sim P γ s w) {fn d:Nat}{st st':LoopState}{pend pend':Option Nat}{pc':Option Code}{tm:AT}{ps:List Nat}{asg body:AC}
 (hg:s.get l=some (.loop st pend fn tm ps asg body d)) (hL:γ l=some L) (hlp:w.heap[L.b]?=some (.loop lp)) (hp:Sd pend' pc'):
 Stp γ s w γ (s.put l (.loop st' pend' fn tm ps asg body d)) { w with heap:=w.heap.setIfInBounds L.b (.loop { lp with state:=st',pending:=pc' }) }∧
 Sim P γ (s.put l (.loop st' pend' fn tm ps asg body d)) { w with heap:=w.heap.setIfInBounds L.b (.loop { lp with state:=st',pending:=pc' }) }:=by
 refine LE hs hg hL rfl ?_
 obtain ⟨lp0,h1,h2,h3,h4,h5,h6,h7⟩:=hs.obj l _ L hg hL
 rw [hlp] at h1;cases h1
 have hlt:=hs.lt l L hL
 exact ⟨{ lp with state:=st',pending:=pc' },by rw [Zrn,Zqd rfl,Zqd hlt],rfl,hp,h4,h5,h6,h7⟩
theorem Zl (hG:D8 P n rec) (hL:γ l=some L) (hA:All2 (VR γ) args vals) (hs:Sim P γ s w) (h:Ih rec l args s=.ok v s'):
 ∃ fn tm asg body,(Instr.yield L.b vals.toArray).run P w=.ok (.round L.b fn tm asg body) w∧∀ m,RoundIn Fence.wide m P L.b fn tm asg body w (E1 P γ s w v s'):=by
 unfold Ih at h
 obtain ⟨st,pend,fn,tm,ps,asg,body,d,hg,h⟩:=Ms h
 obtain ⟨hlen,h⟩:=B5 h
 have hlen:=Zqf hlen
 rw [CN,CN] at hlen
 obtain ⟨lp,h1,h2,h3,h4,h5,⟨N,hN,hca,hcb,hps⟩,D,hD,hdf⟩:=hs.obj l _ L hg hL
 have hsz:vals.toArray.size=lp.params.size:=by
  have e1:=hA.length
  have e2:lp.params.toList.length=ps.length:=by rw [h5]
  simp at e2 ⊢;omega
 obtain ⟨hT,hTs⟩:=Zdw ps args vals lp.tmps tm hA hlen (fun p hp=>Zr2 (hps p hp) hN) h4
 have hfold:(lp.params.zip vals.toArray).foldl (fun tmps (t,a)=>tmps.setIfInBounds t a) lp.tmps=(ps.zip vals).foldl (fun tmps (t,a)=>tmps.setIfInBounds t a) lp.tmps:=by
  rw [← Array.foldl_toList,Array.toList_zip,h5]
 refine ⟨lp.fn,(ps.zip vals).foldl (fun tmps (t,a)=>tmps.setIfInBounds t a) lp.tmps,lp.assign,lp.body,?_,fun m=>?_⟩
 ·simp only [Instr.yield,Zqj,JD h1,Zqc]
  rw [Zqh (by simpa using hsz)]
  simp only [Zqj,Zqp,Zqc,hfold]
 ·unfold LG at h
  obtain ⟨x,t1,s1,ds1,hrec,h⟩:=PY h
  refine roundIn_of_wpIn trivial ?_
  have hw:=(hG N lp.assign asg γ _ s w { tmps:=(ps.zip vals).foldl (fun tmps (t,a)=>tmps.setIfInBounds t a) lp.tmps,defers:=[] } (some l) (some L.b) [] x t1 s1 ds1 γ s w m hca (by rw [hTs];exact hN) hT hs ⟨L,hL,rfl⟩ .nil (.refl _ _ _) hrec).1
  refine wpIn_mono hw ?_
  rintro ex a1 w1 ⟨rfl,hN1,γ1,hst1,hs1,ht1,hd1⟩
  cases x with
  | exit id=>cases h
  | ret=>cases h
  | normal=>
   change (LP.rec .fail (fun st pend fn tm ps asg b d=>LoopState.rec (GN l (rec body t1 (s1.put l (.loop .busy pend fn tm ps asg b d)) (some l) ds1)) .fail .fail .fail st) (CP l s1):RV)=.ok v s' at h
   obtain ⟨st1,pend1,fn1,tm1,ps1,asg1,body1,d1,hg1,h⟩:=Ms h
   have hL1:=hst1.le.loc _ _ hL
   obtain ⟨lp1,k1,k2,k3,_⟩:=hs1.obj l _ L hg1 hL1
   cases st1 with
   | ready=>
    obtain ⟨hst2,hs2⟩:=N5 (st':=.busy) (pend':=pend1) (pc':=lp1.pending) hs1 hg1 hL1 k1 k3
    refine ⟨{ w1 with heap:=w1.heap.setIfInBounds L.b (.loop { lp1 with state:=.busy,pending:=lp1.pending }) },?_,?_⟩
    rotate_left
    ·change GN l (rec body t1 (s1.put l (.loop .busy pend1 fn1 tm1 ps1 asg1 body1 d1)) (some l) ds1)=.ok v s' at h
     unfold GN at h
     obtain ⟨x2,t2,s2,ds2,hrec2,h⟩:=PY h
     have hw2:=(hG N lp.body body γ1 t1 _ _ a1 (some l) (some L.b) ds1 x2 t2 s2 ds2 γ s w m hcb hN1 ht1 hs2 ⟨L,hL,rfl⟩ hd1 (hst1.trans hst2) hrec2).1
     refine wpIn_mono hw2 ?_
     rintro ex2 a2 w2 ⟨rfl,_,γ2,hst3,hs3,ht3,_⟩
     have hL2:=hst3.le.loc _ _ hL
     have fin:∀ (st3:LoopState) (pend3:Option Nat) (b:Bool) (j:Option Code),Sd pend3 j→(st3=if j.isNone then .ready else .done)→b=j.isNone→FC l st3 pend3 b s2=.ok v s'→
      ∃ v' w',(Instr.endRound L.b j).run P w2=.ok v' w'∧E1 P γ s w v s' (.returned v') w':=by
      intro st3 pend3 b j hpj hstj hb hk
      unfold FC at hk
      obtain ⟨st4,pend4,fn4,tm4,ps4,asg4,body4,d4,hg4,hk⟩:=Ms hk
      obtain ⟨rfl,rfl⟩:=Az hk
      obtain ⟨lp4,j1,_⟩:=hs3.obj l _ L hg4 hL2
      obtain ⟨hst5,hs5⟩:=N5 (st':=st3) (pend':=pend3) (pc':=j) hs3 hg4 hL2 j1 hpj
      refine ⟨.bool b,_,?_,.bool b,γ2,rfl,hst3.trans hst5,hs5,.bool _⟩
      subst hb;subst hstj
      simp only [Instr.endRound,Zqj,JD j1,Zqc,Nh _ j1,Zqp]
     cases x2 with
     | normal=>exact fin .ready none true none rfl rfl rfl h
     | ret=>exact fin .done (some 0) false (some .ret) rfl rfl rfl h
     | exit id=>exact fin .done (some (id+1)) false (some (.exit id)) rfl rfl rfl h
    ·simp only [Instr.beginRound,Zqj,JD k1,Zqc,Nh _ k1,k2,Zqp]
   | busy=>cases h
   | done=>cases h
   | exhausted=>cases h
end
end Go.AM
namespace Go.AM
section
variable {P:Program}{γ:Gam}{s:St}{w:World}{t:AT}{e:Env}{rec:Rec}{n:Nat}
variable {b:Option Nat}{m:Nat}{f:FuncId}
theorem Nm {args:Array Value}{R:Ending→World→Prop}(h:CallsIn Fence.wide m P f args w R):CallsIn (BP b) m P f args w R:=by
 cases b with
 | none=>exact h
 | some b=>exact h
theorem Zm {l:Nat}{tm:Array Value}{asg body:Code}{R:Ending→World→Prop}(h:RoundIn Fence.wide m P l f tm asg body w R):RoundIn (BP b) m P l f tm asg body w R:=by
 cases b with
 | none=>exact h
 | some b=>exact h
variable {fv v:AV}{s':St}
theorem Z4 (hG:D8 P n rec) (hE:EnvOk P e) {fv':Value}{args:List AV}{vals:Array Value}(hf:VR γ fv fv') (hA:All2 (VR γ) args vals.toList) (hs:Sim P γ s w) (h:EP e rec fv args s=.ok v s'):
 ∃ d,(Deferred.ofValue fv' vals).run P w=.ok d w∧
  ((∃ f xs,(invoke d.target d.args).run P w=.ok (.enter f xs) w∧∀ m,CallsIn Fence.wide m P f xs w (E1 P γ s w v s'))∨
   (∃ l fn tm asg body,(invoke d.target d.args).run P w=.ok (.round l fn tm asg body) w∧∀ m,RoundIn Fence.wide m P l fn tm asg body w (E1 P γ s w v s'))):=by
 unfold EP at h
 cases hq:EG fv with
 | no=>rw [hq] at h;cases h
 | fn f xs ys=>
  rw [hq] at h
  have:=W9 hq;subst this
  change Co e rec f (Ba xs (Ba args ys)) s=.ok v s' at h
  rw [Db,Db] at h
  cases hf with
  | fn _ _ _ as bs h1 h2=>
   refine ⟨_,rfl,.inl ?_⟩
   obtain ⟨⟨fn,c,e1,e2,e3⟩,hc⟩:=Nn (vals:=as.toList++(vals.toList++bs.toList)) hG hE (h1.append (hA.append h2)) hs h
   have heq:(as.toList++(vals.toList++bs.toList)).toArray=as++vals++bs:=by simp [← List.append_assoc]
   rw [heq] at hc
   refine ⟨f,as++vals++bs,?_,hc⟩
   have h1' : fn.name ≠ "runtime.NumGoroutine" := by simpa using e3
   simp [invoke,callFunc,e1,h1',e2]
 | yld l=>
  rw [hq] at h
  have:=Zfu hq;subst this
  cases hf with
  | yld _ L hL=>
   refine ⟨_,rfl,.inr ?_⟩
   obtain ⟨fn,tm,asg,body,hy,hr⟩:=Zl hG hL hA hs h
   refine ⟨L.b,fn,tm,asg,body,?_,hr⟩
   have heq:(#[]:Array Value)++vals=vals.toList.toArray:=by simp
   simp only [invoke,heq]
   exact hy
def MP (P:Program) (γ:Gam) (s:St) (w:World) (o:Oper) (a:Act) (v:AV) (s':St) (K:Act→World→Prop):Prop:=
 ∀ γ' w' v',Stp γ s w γ' s' w'→Sim P γ' s' w'→(VR γ' v v'∨o.dst=none)→K (a.put o.dst v') w'
variable {args:Array Operand}{ts:Array TypeId}
theorem T7 {ρ:Operand→Value}{f:Operand}{ty:TypeId}:resolve ρ { callee:=.value f,args:=args,argTypes:=ts } ty=Deferred.ofValue (ρ f) (args.map ρ):=rfl
variable {o:Oper}{a:Act}{vs:List AV}{K:Act→World→Prop}{Q:Exit→Act→World→Prop}
theorem UT (hG:D8 P n rec) (hE:EnvOk P e) {f:Operand}
 (hop:o.op=.call { callee:=.value f,args:=args,argTypes:=ts }) (hf:VR γ fv (a.eval f)) (hA:All2 (VR γ) vs (args.toList.map a.eval)) (hs:Sim P γ s w) (h:EP e rec fv vs s=.ok v s') (hK:MP P γ s w o a v s' K):
 o.wpIn (BP b) m P a w K Q:=by
 refine ⟨fun f _=>Ik b f,?_⟩
 rw [Oper.semAt_eq _ _ _ (fun c hc=>by rw [hop] at hc;cases hc)]
 obtain ⟨d,hd,hh⟩:=Z4 (vals:=args.map a.eval) hG hE hf (by simpa using hA) hs h
 have hrun:∀ nx,(invoke d.target d.args).run P w=.ok nx w→(execOp a.eval o).run P w=.ok nx w:=by
  intro nx hnx
  simp only [execOp,hop,Zqj,T7,hd,Zqc,hnx]
 rcases hh with ⟨f',xs,hi,hc⟩|⟨l,fn,tm,asg,body,hi,hc⟩
 ·rw [hrun _ hi,Oper.uponIn_enter]
  refine ⟨Lz b m,Nm (CallsIn.mono (hc _) ?_)⟩
  rintro _ w' ⟨v',γ',rfl,hst,hs',hv⟩
  exact hK γ' w' v' hst hs' (.inl hv)
 ·rw [hrun _ hi,Oper.uponIn_round]
  refine ⟨Lz b m,Zm (RoundIn.mono (hc _) ?_)⟩
  rintro _ w' ⟨v',γ',rfl,hst,hs',hv⟩
  exact hK γ' w' v' hst hs' (.inl hv)
theorem Zeq (hG:D8 P n rec) (hE:EnvOk P e) {r:Operand}{name:String}{k f:Nat}{u:AV}
 (hop:o.op=.call { callee:=.invoke r name,args:=args,argTypes:=ts }) (hr:VR γ (.iface k u) (a.eval r)) (hf:K7 P name k=some f) (hA:All2 (VR γ) vs (args.toList.map a.eval)) (hs:Sim P γ s w) (h:Co e rec f (u::vs) s=.ok v s') (hK:MP P γ s w o a v s' K):
 o.wpIn (BP b) m P a w K Q:=by
 refine ⟨fun f _=>Ik b f,?_⟩
 rw [Oper.semAt_eq _ _ _ (fun c hc=>by rw [hop] at hc;cases hc)]
 generalize hrv:a.eval r=rv at hr
 cases hr with
 | iface _ _ u' hu=>
  obtain ⟨⟨fn,c,e1,e2,e3⟩,hc⟩:=Nn (vals:=u'::args.toList.map a.eval) hG hE (.cons hu hA) hs h
  have hrun:(execOp a.eval o).run P w=.ok (.enter f (u'::args.toList.map a.eval).toArray) w:=by
   have h1' : fn.name ≠ "runtime.NumGoroutine" := by simpa using e3
   have hm:=ZI (w:=w) (v:=u') hf
   have hx:(#[Value.iface k u']++Array.map a.eval args).extract 1 (#[Value.iface k u']++Array.map a.eval args).size=Array.map a.eval args:=by
    obtain ⟨l⟩:=args
    apply Array.ext'
    rw [Array.toList_extract,List.extract_eq_take_drop]
    simp
    rw [Zqi (by simp)]
   have hx2:#[u']++Array.map a.eval args=(u'::args.toList.map a.eval).toArray:=by
    obtain ⟨l⟩:=args
    simp
   have hg0:(#[Value.iface k u']++Array.map a.eval args)[0]?=some (.iface k u'):=by
    obtain ⟨l⟩:=args
    simp
   simp only [execOp,hop,resolve,hrv,Zqj,Zqp,Zqc,invoke,hg0,hx,callMethod]
   simp [hm,hx2,callFunc,e1,h1',e2]
  rw [hrun,Oper.uponIn_enter]
  refine ⟨Lz b m,Nm (CallsIn.mono (hc _) ?_)⟩
  rintro _ w' ⟨v',γ',rfl,hst,hs',hv⟩
  exact hK γ' w' v' hst hs' (.inl hv)
theorem Qi (hd:∀ c,o.op≠.defer c) (h:OpOk P γ s w a.eval o v s') (hK:MP P γ s w o a v s' K):
 o.wpIn (BP b) m P a w K Q:=by
 refine ⟨fun f _=>Ik b f,?_⟩
 rw [Oper.semAt_eq _ _ _ hd]
 obtain ⟨γ',w',hst,hs',⟨v',hr,hv⟩|⟨hr,hn⟩⟩:=h
 ·rw [hr,Oper.uponIn_value];exact hK γ' w' v' hst hs' (.inl hv)
 ·rw [hr,Oper.uponIn_skip];exact hK γ' w' undef hst hs' (.inr hn)
variable {p:AOp}
theorem T9 (h:AH P o=some p):∀ c,o.op≠.defer c:=by
 intro c hc
 simp only [AH,hc] at h
 cases h
theorem Zq (hG:D8 P n rec) (hE:EnvOk P e) (hc:AH P o=some p)
 (he:Evs γ t a.eval o.op.operands.toList) (hs:Sim P γ s w) (h:AL p e rec t s=.ok v s') (hK:MP P γ s w o a v s' K):o.wpIn (BP b) m P a w K Q:=by
 have hnd:=T9 hc
 cases hp:RG p with
 | false=>
  rcases Vk (w:=w) he hc hp h with ⟨_,hf⟩|⟨_,hf⟩
  ·exact Qi hnd (hf.ok hs) hK
  ·exact Qi hnd (hf hs) hK
 | true=>
  cases hop:o.op with
  | call c=>
   obtain ⟨cal,args,ts⟩:=c
   have hc':=hc
   simp only [AH,hop] at hc'
   rw [hop] at he
   cases cal with
   | value f=>
    have hef:Evs γ t a.eval [f]:=fun x hx=>he x (by simp [Op.operands,Call.operands] at hx ⊢;exact .inl hx)
    have hea:Evs γ t a.eval args.toList:=fun x hx=>he x (by simp [Op.operands,Call.operands] at hx ⊢;exact .inr hx)
    split at hc'
    ·rename_i f' hf'
     cases hf'
     obtain ⟨as,has,rfl⟩:=map_some hc'
     change (Option.rec .fail (fun vs=>Option.rec (Co e rec f' vs s) (fun h=>h vs s) (e.X.get f')) (Ck t as):RV)=.ok v s' at h
     obtain ⟨vs,hvs,h⟩:=AI h
     cases hX:e.X.get f' with
     | some hh=>
     rw [hX] at h
     obtain ⟨v',γ',w',hr,hst,hsim,hv⟩:=hE.X f' hh hX γ vs (args.toList.map a.eval) s w v s' (IP has hvs hea) hs h
     refine Qi hnd ⟨γ',w',hst,hsim,.inl ⟨v',?_,hv⟩⟩ hK
     simp only [execOp,hop,Zqj,T7]
     have hvv:(List.map a.eval args.toList).toArray=Array.map a.eval args:=by obtain ⟨l⟩:=args;simp
     rw [hvv] at hr
     simpa [Act.eval,Deferred.ofValue,invoke] using hr
     | none=>
     rw [hX] at h
     refine UT hG hE hop (fv:=.fn f' [] []) (.fn _ _ _ _ _ .nil .nil) (IP has hvs hea) hs ?_ hK
     change Co e rec f' (Ba [] (Ba vs [])) s=.ok v s'
     rw [Db,Db];simpa using h
    ·rename_i g _ hg
     cases hg
     split at hc'
     ·rename_i x as hx has
      cases hc'
      obtain ⟨fv,hfv,h⟩:=AF h
      obtain ⟨vs,hvs,h⟩:=AI h
      exact UT hG hE hop (hef f (by simp) x fv hx hfv) (IP has hvs hea) hs h hK
     ·cases hc'
    ·rename_i hq;cases hq
    ·rename_i hq;cases hq
   | builtin bi=>
    exfalso
    simp only at hc'
    unfold Nl at hc'
    repeat' split at hc'
    all_goals first
     | (cases hc';done)
     | (obtain ⟨_,_,rfl⟩:=map_some hc';cases hp;done)
     | (cases hc';cases hp;done)
   | invoke r mth=>
    have her:Evs γ t a.eval [r]:=fun x hx=>he x (by simp [Op.operands,Call.operands] at hx ⊢;exact .inl hx)
    have hea:Evs γ t a.eval args.toList:=fun x hx=>he x (by simp [Op.operands,Call.operands] at hx ⊢;exact .inr hx)
    simp only at hc'
    split at hc'
    ·rename_i x as hx has
     cases hc'
     obtain ⟨xv,hxv,h⟩:=AF h
     obtain ⟨vs,hvs,h⟩:=AI h
     obtain ⟨k,u,rfl,h⟩:=Sk h
     obtain ⟨f,hf,h⟩:=AI h
     exact Zeq hG hE hop (her r (by simp) x _ hx hxv) (Zy hf) (IP has hvs hea) hs h hK
    ·cases hc'
  | makeFunc f as bs=>
   exfalso
   have hc':=hc
   cases f with
   | func f=>
    simp only [AH,hop] at hc'
    split at hc'
    ·cases hc';cases hp
    ·cases hc'
   | _=>simp only [AH,hop] at hc';cases hc'
  | makeMap ty r=>
   exfalso
   have hc':=hc
   cases r with
   | none=>simp only [AH,hop] at hc';cases hc';cases hp
   | some r=>simp only [AH,hop] at hc';cases hc'
  | next x str=>
   exfalso
   have hc':=hc
   cases str with
   | true=>simp only [AH,hop] at hc';cases hc'
   | false=>
    simp only [AH,hop] at hc'
    obtain ⟨_,_,rfl⟩:=map_some hc';cases hp
  | typeAssert x xt ty ok=>
   exfalso
   have hc':=hc
   cases ok with
   | false=>simp only [AH,hop] at hc';cases hc'
   | true=>
    simp only [AH,hop] at hc'
    repeat' split at hc'
    all_goals first
     | (cases hc';done)
     | (cases hc';cases hp;done)
  | _=>
   exfalso
   have hc':=hc
   simp only [AH,hop] at hc'
   repeat' split at hc'
   all_goals first
    | (cases hc';done)
    | (obtain ⟨_,_,rfl⟩:=map_some hc';cases hp;done)
    | (cases hc';cases hp;done)
theorem Qk (hG:D8 P n rec) (hE:EnvOk P e) (hc:Il P o=some p)
 (he:Evs γ t a.eval o.op.operands.toList) (hs:Sim P γ s w) (h:AL p e rec t s=.ok v s') (hK:MP P γ s w o a v s' K):o.wpIn (BP b) m P a w K Q:=by
 rcases TF hc with hc|rfl
 ·exact Zq hG hE hc he hs h hK
 ·cases h
end
end Go.AM
namespace Go.AM
section
variable {P:Program}{γ:Gam}{s:St}{w:World}{t:AT}{e:Env}{rec:Rec}{n:Nat}
variable {x:Ex}{t':AT}{s':St}{ds':List Nat}
theorem Sw {k:AT→St→R}{r:RT}(h:(RT.rec .fail k r:R)=.ok x t' s' ds'):∃ t1 s1,r=.ok t1 s1∧k t1 s1=.ok x t' s' ds':=by
 cases r with
 | fail=>cases h
 | ok t1 s1=>exact ⟨t1,s1,rfl,h⟩
theorem KD {k:Ex→AT→St→List Nat→R}{r:R}(h:(R.rec .fail k r:R)=.ok x t' s' ds'):∃ x1 t1 s1 ds1,r=.ok x1 t1 s1 ds1∧k x1 t1 s1 ds1=.ok x t' s' ds':=by
 cases r with
 | fail=>cases h
 | ok x1 t1 s1 ds1=>exact ⟨x1,t1,s1,ds1,rfl,h⟩
theorem XU {k:AV→St→R}{r:RV}(h:(RV.rec .fail k r:R)=.ok x t' s' ds'):∃ v s1,r=.ok v s1∧k v s1=.ok x t' s' ds':=by
 cases r with
 | fail=>cases h
 | ok v s1=>exact ⟨v,s1,rfl,h⟩
theorem ON {k:AV→R}{r:OV}(h:(OV.rec .fail k r:R)=.ok x t' s' ds'):∃ v,r=.some v∧k v=.ok x t' s' ds':=by
 cases r with
 | none=>cases h
 | some v=>exact ⟨v,rfl,h⟩
variable {l:Nat}
theorem OD {k:LoopState→Option Nat→Nat→AT→List Nat→AC→AC→Nat→R}(h:(LP.rec .fail k (CP l s):R)=.ok x t' s' ds'):
 ∃ st pend fn tm ps asg body d,s.get l=some (.loop st pend fn tm ps asg body d)∧k st pend fn tm ps asg body d=.ok x t' s' ds':=by
 unfold CP at h
 cases hg:s.get l with
 | none=>rw [hg] at h;cases h
 | some o=>
  rw [hg] at h
  cases o with
  | loop st pend fn tm ps asg body d=>exact ⟨st,pend,fn,tm,ps,asg,body,d,rfl,h⟩
  | _=>cases h
theorem U6 {d:Nat}{p:AOp}{g:Option (Nat×Bool)}{l:List AOper}(h:AD e rec (.mk d p g::l) t s=.ok t' s'):
 (AN g t=1∧AD e rec l (BF d (.tup []) t) s=.ok t' s')∨(AN g t=2∧∃ v s1,AL p e rec t s=.ok v s1∧AD e rec l (BF d v t) s1=.ok t' s'):=by
 change (Nat.rec .fail (fun w _=>Nat.rec (AD e rec l (BF d (.tup []) t) s) (fun _ _=>RV.rec .fail (fun v s'=>AD e rec l (BF d v t) s') (AL p e rec t s)) w) (AN g t):RT)=.ok t' s' at h
 have hw:AN g t=0∨AN g t=1∨AN g t=2:=by
  cases g with
  | none=>exact .inr (.inr rfl)
  | some q=>
   obtain ⟨j,b⟩:=q
   show (Option.rec 0 (fun v=>BR.rec (Bool.rec 1 0 (Bu v)) (Bool.rec 1 2 b) (Bool.rec 2 1 b) (asBool v)) (t.get j):Nat)=0∨(Option.rec 0 (fun v=>BR.rec (Bool.rec 1 0 (Bu v)) (Bool.rec 1 2 b) (Bool.rec 2 1 b) (asBool v)) (t.get j):Nat)=1∨(Option.rec 0 (fun v=>BR.rec (Bool.rec 1 0 (Bu v)) (Bool.rec 1 2 b) (Bool.rec 2 1 b) (asBool v)) (t.get j):Nat)=2
   cases t.get j with
   | none=>exact .inl rfl
   | some v=>
    show (BR.rec (Bool.rec 1 0 (Bu v)) (Bool.rec 1 2 b) (Bool.rec 2 1 b) (asBool v):Nat)=0∨(BR.rec (Bool.rec 1 0 (Bu v)) (Bool.rec 1 2 b) (Bool.rec 2 1 b) (asBool v):Nat)=1∨(BR.rec (Bool.rec 1 0 (Bu v)) (Bool.rec 1 2 b) (Bool.rec 2 1 b) (asBool v):Nat)=2
    cases asBool v <;> cases b <;> cases Bu v <;> simp
 rcases hw with hw|hw|hw
 ·rw [hw] at h;cases h
 ·rw [hw] at h;exact .inl ⟨hw,h⟩
 ·rw [hw] at h
  change (RV.rec .fail (fun v s'=>AD e rec l (BF d v t) s') (AL p e rec t s):RT)=.ok t' s' at h
  cases ho:AL p e rec t s with
  | fail=>rw [ho] at h;cases h
  | ok v s1=>rw [ho] at h;exact .inr ⟨hw,v,s1,rfl,h⟩
variable {N m:Nat}{b:Option Nat}{γ0:Gam}{s0:St}{w0:World}{ds:List Nat}
theorem ZU (hG:D8 P n rec) (hE:EnvOk P e) {ops:Array Oper}:∀ (l:List Oper) (al:List AOper) (γ:Gam) (t:AT) (s:St) (w:World) (a:Act),
 GM P N ops l=some al→N≤a.tmps.size→TR γ t a.tmps→Sim P γ s w→DR γ ds a.defers→Stp γ0 s0 w0 γ s w→AD e rec al t s=.ok t' s'→
 wpListIn (BP b) m P ops (Di P γ0 s0 w0 N .normal t' s' ds) l a w:=by
 intro l
 induction l with
 | nil=>
  intro al γ t s w a hc hN ht hs hd hst h
  cases hc;cases h
  exact ⟨rfl,hN,γ,hst,hs,ht,hd⟩
 | cons o l ih=>
  intro al γ t s w a hc hN ht hs hd hst h
  simp only [GM] at hc
  split at hc
  ·rename_i d p g r h1 h2 h3 h4
   cases hc
   obtain ⟨hw2,hw1⟩:=YW ht h3
   simp only [wpListIn]
   rcases U6 h with ⟨hw,h⟩|⟨hw,v,s1,hop,h⟩
   ·rw [Zqh (by rw [hw1 hw];simp)]
    refine ⟨fun f _=>Ik b f,?_⟩
    exact ih r γ _ s w _ h4 (by rw [NH];exact hN) (ht.put hN h1 (.inl Vc)) hs (by rw [Np];exact hd) hst h
   ·rw [Zqd (hw2 hw)]
    refine Qk hG hE h2 (UZ ht _) hs hop ?_
    intro γ' w' v' hst' hs' hv
    exact ih r γ' _ s1 w' _ h4 (by rw [NH];exact hN) ((ht.mono hst'.le).put hN h1 hv) hs' (by rw [Np];exact hd.mono hst'.le) (hst.trans hst') h
  ·cases hc
def VI (P:Program) (e:Env) (rec:Rec):Prop:=
 ∀ (N:Nat) (id:Nat) (ops:Array Oper) (al:List AOper) (γ:Gam) (t:AT) (s:St) (w:World) (a:Act) (b:Option Nat) (ds:List Nat) (t':AT) (s':St) (γ0:Gam) (s0:St) (w0:World) (m:Nat),
  HR P N ops=some al→N≤a.tmps.size→TR γ t a.tmps→Sim P γ s w→DR γ ds a.defers→Stp γ0 s0 w0 γ s w→AD e rec al t s=.ok t' s'→
  (Code.region id ops true).wpIn (BP b) m P (Di P γ0 s0 w0 N .normal t' s' ds) a w
theorem Zf (hG:D8 P n rec) (hE:EnvOk P e) {fv:AV}{fv':Value}{args:List AV}{vals:Array Value}{v:AV}(hf:VR γ fv fv') (hA:All2 (VR γ) args vals.toList) (hs:Sim P γ s w) (h:Kt e rec fv args s=.ok v s'):
 ∃ d,(Deferred.ofValue fv' vals).run P w=.ok d w∧∃ f xs,(invoke d.target d.args).run P w=.ok (.enter f xs) w∧∀ m,CallsIn Fence.wide m P f xs w (E1 P γ s w v s'):=by
 unfold Kt at h
 cases hq:EG fv with
 | no=>rw [hq] at h;cases h
 | yld l=>rw [hq] at h;cases h
 | fn f xs ys=>
  rw [hq] at h
  have:=W9 hq;subst this
  change Co e rec f (Ba xs (Ba args ys)) s=.ok v s' at h
  rw [Db,Db] at h
  cases hf with
  | fn _ _ _ as bs h1 h2=>
   refine ⟨_,rfl,?_⟩
   obtain ⟨⟨fn,c,e1,e2,e3⟩,hc⟩:=Nn (vals:=as.toList++(vals.toList++bs.toList)) hG hE (h1.append (hA.append h2)) hs h
   have heq:(as.toList++(vals.toList++bs.toList)).toArray=as++vals++bs:=by simp [← List.append_assoc]
   rw [heq] at hc
   refine ⟨f,as++vals++bs,?_,hc⟩
   have h1' : fn.name ≠ "runtime.NumGoroutine" := by simpa using e3
   simp [invoke,callFunc,e1,h1',e2]
variable {a:Act}
theorem Zgu {L:Loc}{v':Value}(hN:N≤a.tmps.size) (ht:TR γ t a.tmps) (hs:Sim P γ s w) (hL:γ l=some L) (hd:DR γ ds a.defers) (hst:Stp γ0 s0 w0 γ s w)
 (h:IY l ds t s=.ok x t' s' ds'):rangePost (BP b) m P L.b (Di P γ0 s0 w0 N x t' s' ds') a (.returned v') w:=by
 unfold IY at h
 obtain ⟨st,pend,fn,tm,ps,asg,body,d,hg,h⟩:=OD h
 obtain ⟨lp,k1,k2,k3,_⟩:=hs.obj l _ L hg hL
 have hend:st≠.busy→(Instr.endLoop L.b).run P w=.ok lp.pending { w with heap:=w.heap.setIfInBounds L.b (.loop { lp with state:=.exhausted,pending:=lp.pending }) }:=by
  intro hb
  have:(lp.state == LoopState.busy)=false:=by rw [k2];cases st <;> first|rfl|exact absurd rfl hb
  simp only [Instr.endLoop,Zqj,JD k1,Zqc,this]
  simp only [Bool.false_eq_true,if_false,Zqj,Zqp,Zqc,Nh _ k1]
 obtain ⟨hst2,hs2⟩:=N5 (st':=.exhausted) (pend':=pend) (pc':=lp.pending) hs hg hL k1 k3
 have fin:st≠.busy→JY l fn tm ps asg body d pend ds t s=.ok x t' s' ds'→rangePost (BP b) m P L.b (Di P γ0 s0 w0 N x t' s' ds') a (.returned v') w:=by
  intro hb hk
  refine ⟨_,_,hend hb,?_⟩
  have hpost:Di P γ0 s0 w0 N x t (s.put l (.loop .exhausted pend fn tm ps asg body d)) ds (MJ x) a { w with heap:=w.heap.setIfInBounds L.b (.loop { lp with state:=.exhausted,pending:=lp.pending }) }:=
   ⟨rfl,hN,γ,hst.trans hst2,hs2,ht,hd⟩
  cases pend with
  | none=>
   cases hk
   rw [show lp.pending=none from k3] at hpost ⊢
   exact hpost
  | some i=>
   cases i with
   | zero=>
    cases hk
    rw [show lp.pending=some .ret from k3] at hpost ⊢
    exact wpIn_ret hpost
   | succ id=>
    cases hk
    rw [show lp.pending=some (.exit id) from k3] at hpost ⊢
    exact wpIn_exit hpost
 cases st with
 | ready=>exact fin (by simp) h
 | busy=>cases h
 | done=>exact fin (by simp) h
 | exhausted=>exact fin (by simp) h
theorem Zbn (hG:D8 P n rec) (hE:EnvOk P e) {rd:Option Nat}{g:Operand}{ga:AO}{ps:Array Tmp}{asg body:Code}{aa ab:AC}
 (hg:Af g=some ga) (hca:AZ P N asg=some aa) (hcb:AZ P N body=some ab) (hps:∀ p ∈ ps.toList,p<N) (hN:N≤a.tmps.size) (ht:TR γ t a.tmps) (hs:Sim P γ s w) (hrd:RD γ rd b) (hd:DR γ ds a.defers) (hst:Stp γ0 s0 w0 γ s w)
 (h:S3 ga ps.toList aa ab e rec t s rd ds=.ok x t' s' ds'):(Code.rangeFunc g ps asg body).wpIn (BP b) m P (Di P γ0 s0 w0 N x t' s' ds') a w:=by
 refine wpIn_rangeFunc fun fn _=>?_
 unfold S3 at h
 obtain ⟨gv,hgv,h⟩:=ON h
 have hgR:=OL ht hg hgv
 -- the record laid,the call,the end
 have go:∀ (γ1:Gam) (s1:St) (w1:World) (d:Nat) (D:Loc) (ds1:List Nat) (mark:List Deferred),Stp γ0 s0 w0 γ1 s1 w1→Sim P γ1 s1 w1→Le γ γ1→γ1 d=some D→DR γ1 ds1 (mark++a.defers)→
  FK e rec gv ps.toList aa ab t d ds1 s1=.ok x t' s' ds'→
  (Instr.enterLoop fn a.tmps ps asg body (BP b).round).run P w=.ok (w1.heap.size,mark) (w1.alloc (.loop { state:=.ready,pending:=none,fn:=fn,tmps:=a.tmps,params:=ps,assign:=asg,body:=body,defers:=D.b }))→
  ∃ (l:Nat) (mark:List Deferred) (w₁:World) (d:Deferred) (w₁':World) (f:FuncId) (args:Array Value) (w₂:World),
  (Instr.enterLoop fn a.tmps ps asg body (BP b).round).run P w=.ok (l,mark) w₁∧
  (resolve a.eval (rangeCall g l) 0).run P w₁=.ok d w₁'∧
  (∀ f',Target.leads P w₁' d.target d.args=some f'→(BP b).fn f')∧
  (invoke d.target d.args).run P w₁'=.ok (.enter f args) w₂∧
  ((BP b).depth.isSome=true→1≤m)∧
  CallsIn (BP b) (m-1) P f args w₂ (rangePost (BP b) m P l (Di P γ0 s0 w0 N x t' s' ds') { a with defers:=mark++a.defers }):=by
  intro γ1 s1 w1 d D ds1 mark hst1 hs1 hle hdD hdr hgo henter
  unfold FK at hgo
  obtain ⟨v,s2,hcall,hgo⟩:=XU hgo
  obtain ⟨hst2,hs2⟩:=hs1.alloc (.loop .ready none 0 t ps.toList aa ab d) (.loop { state:=.ready,pending:=none,fn:=fn,tmps:=a.tmps,params:=ps,assign:=asg,body:=body,defers:=D.b }) 0 0
   ⟨{ state:=.ready,pending:=none,fn:=fn,tmps:=a.tmps,params:=ps,assign:=asg,body:=body,defers:=D.b },by show (w1.heap.push _)[w1.heap.size]?=_;simp,rfl,rfl,(ht.mono hle).mono (Fp (hs1.nx _ (Zqu _))),rfl,⟨N,hN,hca,hcb,hps⟩,D,(Fp (hs1.nx _ (Zqu _))).loc _ _ hdD,rfl⟩
  obtain ⟨df,hdf,f,xs,hinv,hc⟩:=Zf (vals:=#[.func (.yield w1.heap.size) #[] #[]]) hG hE ((hgR.mono hle).mono hst2.le) (.cons (.yld _ _ (B3 _ _ _)) .nil) hs2 hcall
  refine ⟨w1.heap.size,mark,_,df,_,f,xs,_,henter,?_,fun f' _=>Ik b f',hinv,Lz b m,Nm (CallsIn.mono (hc _) ?_)⟩
  ·have hmap:(#[Operand.const (.func (.yield w1.heap.size) #[] #[])]:Array Operand).map a.eval=#[.func (.yield w1.heap.size) #[] #[]]:=by simp [Act.eval]
   show (Deferred.ofValue (a.eval g) ((#[Operand.const (.func (.yield w1.heap.size) #[] #[])]:Array Operand).map a.eval)).run P _=_
   rw [hmap];exact hdf
  ·rintro _ w3 ⟨v',γ3,rfl,hst3,hs3,_⟩
   exact Zgu (L:=⟨w1.heap.size,0,0,0⟩) (a:={ a with defers:=mark++a.defers }) hN (((ht.mono hle).mono hst2.le).mono hst3.le) hs3 (hst3.le.loc _ _ (B3 _ _ _)) ((hdr.mono hst2.le).mono hst3.le) ((hst1.trans hst2).trans hst3) hgo
 cases rd with
 | none=>
  cases hrd
  obtain ⟨hst1,hs1⟩:=hs.alloc .defd (.deferred (some [])) 0 0 (by show (w.heap.push _)[w.heap.size]?=_;simp)
  refine go _ _ _ s.next ⟨w.heap.size,0,0,0⟩ _ [{ target:=.collected w.heap.size,args:=#[] }] (hst.trans hst1) hs1 hst1.le (B3 _ _ _) (.cons ⟨_,B3 _ _ _,rfl⟩ (hd.mono hst1.le)) h ?_
  rw [Qz]
  simp only [Instr.enterLoop,Zqj,HP,Zqc,Zqp]
 | some l=>
  obtain ⟨L,hL,rfl⟩:=hrd
  obtain ⟨st,pend,fn0,tm,ps0,asg0,body0,d,hgl,h⟩:=OD h
  obtain ⟨lp,k1,_,_,_,_,_,D,hD,hDf⟩:=hs.obj l _ L hgl hL
  refine go γ s w d D ds [] hst hs (Le.refl γ) hD (by simpa using hd) h ?_
  rw [Qz]
  simp only [Instr.enterLoop,Zqj,JD k1,HP,Zqc,Zqp,hDf]
theorem VN {x1:Ex}{t1:AT}{s1:St}{ds1:List Nat}{y:R}(hk:(Ex.rec y (fun id=>.ok (.exit id) t1 s1 ds1) (.ok .ret t1 s1 ds1) x1:R)=.ok x t' s' ds') {K:Act→World→Prop}
 (hK:∀ γ1 a1 w1,y=.ok x t' s' ds'→N≤a1.tmps.size→TR γ1 t1 a1.tmps→Sim P γ1 s1 w1→DR γ1 ds1 a1.defers→Stp γ0 s0 w0 γ1 s1 w1→K a1 w1):
 ∀ ex a1 w1,Di P γ0 s0 w0 N x1 t1 s1 ds1 ex a1 w1→Exit.then K (Di P γ0 s0 w0 N x t' s' ds') ex a1 w1:=by
 rintro ex a1 w1 ⟨rfl,q1,γ1,q2,q3,q4,q5⟩
 cases x1 with
 | normal=>exact hK γ1 a1 w1 hk q1 q4 q3 q5 q2
 | exit id=>cases hk;exact ⟨rfl,q1,γ1,q2,q3,q4,q5⟩
 | ret=>cases hk;exact ⟨rfl,q1,γ1,q2,q3,q4,q5⟩
variable {k:List Item}{cs:List Frame}{c:Code}
theorem JC {b:Frame}:
 step P (lone (b.atR a (.code (.scope c)::k)) cs w)=.next (lone (b.atR a (.code c::.inScope c::k)) cs w):=
 step_lone_go (by simp [stepG,stepG.exec,Frame.atR])
theorem YO {b:Frame}:
 step P (lone (b.atR a (.inScope c::k)) cs w)=.next (lone (b.atR a k) cs w):=
 step_lone_go (by simp [stepG,stepG.exec,Frame.atR])
theorem TN {F:Fence}{Q:Exit→Act→World→Prop}(hg:∀ l a w,¬ Q (.goto l) a w) (h:c.wpIn F m P Q a w):(Code.scope c).wpIn F m P Q a w:=by
 intro b k cs hro hb hr
 have h0:(lone (b.atR a (.code (.scope c)::k)) cs w).fenced P F:=fenced_calm hb hr rfl
 obtain ⟨e,a₁,w₁,hq,harr⟩:=h b (.inScope c::k) cs hro hb hr
 cases e with
 | normal=>exact ⟨.normal,a₁,w₁,hq,.head h0 JC (StepsIn.trans harr (.one (fenced_calm hb hr rfl) YO))⟩
 | exit id=>
  have hx:exitTo id (.inScope c::k)=exitTo id k:=by simp [exitTo]
  exact ⟨.exit id,a₁,w₁,hq,fun k' hk=>.head h0 JC (harr.1 k' (by rw [hx];exact hk)),
   fun hr' hk=>let ⟨k₁,h1,h2⟩:=harr.2 hr' (by rw [hx];exact hk);⟨k₁,h1,.head h0 JC h2⟩⟩
 | goto l=>exact absurd hq (hg l _ _)
 | ret=>exact ⟨_,a₁,w₁,hq,.of_steps (.one h0 JC) harr⟩
 | panic ch=>exact ⟨_,a₁,w₁,hq,.of_steps (.one h0 JC) harr⟩
 | outgrown=>exact ⟨_,a₁,w₁,hq,.of_steps (.one h0 JC) harr⟩
theorem Zag (hE:EnvOk P e) (hD:∀ n rec,D8 P n rec→VI P e rec):∀ n,D8 P n (exec e n):=by
 intro n
 induction n with
 | zero=>intro N c ac γ t s w a rd b ds x t' s' ds' γ0 s0 w0 m _ _ _ _ _ _ _ h;cases h
 | succ n ih=>
  intro N c ac γ t s w a rd b ds x t' s' ds' γ0 s0 w0 m hc hN ht hs hrd hd hst h
  change acF ac e (exec e n) t s rd ds=.ok x t' s' ds' at h
  cases c with
  | skip=>
   cases hc;cases h
   exact ⟨wpIn_skip ⟨rfl,hN,γ,hst,hs,ht,hd⟩,fun c' hc'=>by cases hc'⟩
  | ret=>
   cases hc;cases h
   exact ⟨wpIn_ret ⟨rfl,hN,γ,hst,hs,ht,hd⟩,fun c' hc'=>by cases hc'⟩
  | label l=>
   cases hc;cases h
   exact ⟨wpIn_label ⟨rfl,hN,γ,hst,hs,ht,hd⟩,fun c' hc'=>by cases hc'⟩
  | scope c1=>
   refine ⟨?_,fun c' hc'=>by cases hc'⟩
   obtain ⟨a1,h1,rfl⟩:=map_some (show (AZ P N c1).map AC.scope=some ac from hc)
   refine TN (fun l a w hp=>?_) (ih N c1 a1 γ t s w a rd b ds x t' s' ds' γ0 s0 w0 m h1 hN ht hs hrd hd hst h).1
   cases x <;> exact absurd hp.1 (by simp [MJ])
  | exit id=>
   cases hc;cases h
   exact ⟨wpIn_exit ⟨rfl,hN,γ,hst,hs,ht,hd⟩,fun c' hc'=>by cases hc'⟩
  | region id ops dr=>
   refine ⟨?_,fun c' hc'=>by cases hc'⟩
   cases dr with
   | false=>
    obtain ⟨al,hal,rfl⟩:=map_some (show (GM P N ops ops.toList).map AC.reg=some ac from hc)
    obtain ⟨t1,s1,hops,hk⟩:=Sw (show (RT.rec .fail (fun t' s'=>.ok .normal t' s' ds) (AD e (exec e n) al t s):R)=.ok x t' s' ds' from h)
    cases hk
    exact wpIn_region_list (ZU ih hE ops.toList al γ t s w a hal hN ht hs hd hst hops)
   | true=>
    have hc':some (((HR P N ops).map AC.reg).getD MK)=some ac:=hc
    cases hal:HR P N ops with
    | none=>rw [hal] at hc';cases hc';cases h
    | some al=>
    rw [hal] at hc';cases hc'
    obtain ⟨t1,s1,hops,hk⟩:=Sw (show (RT.rec .fail (fun t' s'=>.ok .normal t' s' ds) (AD e (exec e n) al t s):R)=.ok x t' s' ds' from h)
    cases hk
    exact hD n _ ih N id ops al γ t s w a b ds t' s' γ0 s0 w0 m hal hN ht hs hd hst hops
  | seq c1 c2=>
   refine ⟨?_,fun c' hc'=>by cases hc'⟩
   simp only [AZ] at hc
   split at hc
   ·rename_i a1 a2 h1 h2
    cases hc
    obtain ⟨x1,t1,s1,ds1,hr,hk⟩:=KD (show (R.rec .fail (fun x t s ds=>Ex.rec (exec e n a2 t s rd ds) (fun id=>.ok (.exit id) t s ds) (.ok .ret t s ds) x) (exec e n a1 t s rd ds):R)=.ok x t' s' ds' from h)
    refine wpIn_seq (wpIn_mono (ih N c1 a1 γ t s w a rd b ds x1 t1 s1 ds1 γ0 s0 w0 m h1 hN ht hs hrd hd hst hr).1 (VN hk ?_))
    intro γ1 a1' w1 hy q1 q2 q3 q4 q5
    exact (ih N c2 a2 γ1 t1 s1 w1 a1' rd b ds1 x t' s' ds' γ0 s0 w0 m h2 q1 q2 q3 hrd q4 q5 hy).1
   ·cases hc
  | cond x0 c1 c2=>
   refine ⟨?_,fun c' hc'=>by cases hc'⟩
   simp only [AZ] at hc
   split at hc
   ·rename_i y a1 a2 h0 h1 h2
    cases hc
    obtain ⟨v,hv,hk⟩:=ON (show (OV.rec .fail (fun v=>BR.rec .fail (exec e n a1 t s rd ds) (exec e n a2 t s rd ds) (asBool v)) (ev y t):R)=.ok x t' s' ds' from h)
    have hR:=OL ht h0 hv
    cases hb:asBool v with
    | no=>rw [hb] at hk;cases hk
    | tt=>
     rw [hb] at hk
     rw [L3 hb] at hR
     exact wpIn_cond_true (Gy hR) (ih N c1 a1 γ t s w a rd b ds x t' s' ds' γ0 s0 w0 m h1 hN ht hs hrd hd hst hk).1
    | ff=>
     rw [hb] at hk
     rw [NA hb] at hR
     exact wpIn_cond_false (Gy hR) (ih N c2 a2 γ t s w a rd b ds x t' s' ds' γ0 s0 w0 m h2 hN ht hs hrd hd hst hk).1
   ·cases hc
  | block id c1=>
   refine ⟨?_,fun c' hc'=>by cases hc'⟩
   obtain ⟨a1,h1,rfl⟩:=map_some (show (AZ P N c1).map (AC.block id)=some ac from hc)
   obtain ⟨x1,t1,s1,ds1,hr,hk⟩:=KD (show (R.rec .fail (fun x t s ds=>Ex.rec (.ok .normal t s ds) (fun id'=>Bool.rec (.ok (.exit id') t s ds) (.ok .normal t s ds) (Nat.beq id id')) (.ok .ret t s ds) x) (exec e n a1 t s rd ds):R)=.ok x t' s' ds' from h)
   refine wpIn_block (wpIn_mono (ih N c1 a1 γ t s w a rd b ds x1 t1 s1 ds1 γ0 s0 w0 m h1 hN ht hs hrd hd hst hr).1 ?_)
   rintro ex a1' w1 ⟨rfl,q1,γ1,q2,q3,q4,q5⟩
   cases x1 with
   | normal=>cases hk;exact ⟨rfl,q1,γ1,q2,q3,q4,q5⟩
   | ret=>cases hk;exact ⟨rfl,q1,γ1,q2,q3,q4,q5⟩
   | exit id'=>
    show if id'=id then _ else _
    cases hb:Nat.beq id id' with
    | true=>
     have hid:=Zqf hb
     change (Bool.rec (.ok (.exit id') t1 s1 ds1) (.ok .normal t1 s1 ds1) (Nat.beq id id'):R)=_ at hk
     rw [hb] at hk;cases hk
     rw [Zqd hid.symm];exact ⟨rfl,q1,γ1,q2,q3,q4,q5⟩
    | false=>
     have hid:=Zre hb
     change (Bool.rec (.ok (.exit id') t1 s1 ds1) (.ok .normal t1 s1 ds1) (Nat.beq id id'):R)=_ at hk
     rw [hb] at hk;cases hk
     rw [Zqh (fun e=>hid e.symm)];exact ⟨rfl,q1,γ1,q2,q3,q4,q5⟩
  | loop c1=>
   have key:Code.roundsIn (BP b) m P c1 (Di P γ0 s0 w0 N x t' s' ds') (n+1) a w:=by
    obtain ⟨a1,h1,rfl⟩:=map_some (show (AZ P N c1).map AC.loop=some ac from hc)
    obtain ⟨x1,t1,s1,ds1,hr,hk⟩:=KD (show (R.rec .fail (fun x t s ds=>Ex.rec (exec e n (.loop a1) t s rd ds) (fun id=>.ok (.exit id) t s ds) (.ok .ret t s ds) x) (exec e n a1 t s rd ds):R)=.ok x t' s' ds' from h)
    rw [roundsIn_succ]
    refine wpIn_mono (ih N c1 a1 γ t s w a rd b ds x1 t1 s1 ds1 γ0 s0 w0 m h1 hN ht hs hrd hd hst hr).1 (VN hk ?_)
    intro γ1 a1' w1 hy q1 q2 q3 q4 q5
    exact (ih N (.loop c1) (.loop a1) γ1 t1 s1 w1 a1' rd b ds1 x t' s' ds' γ0 s0 w0 m hc q1 q2 q3 hrd q4 q5 hy).2 c1 rfl
   exact ⟨wpIn_loop_rounds _ key,fun c' hc'=>by cases hc';exact key⟩
  | rangeFunc f ps asg body=>
   refine ⟨?_,fun c' hc'=>by cases hc'⟩
   simp only [AZ] at hc
   split at hc
   ·rename_i y a1 a2 h0 h1 h2
    split at hc
    ·rename_i hps
     cases hc
     refine Zbn ih hE h0 h1 h2 (fun p hp=>?_) hN ht hs (hrd.mono hst.le) hd hst h
     have:=Zr7.1 hps p hp
     simpa using this
    ·cases hc
   ·cases hc
  | _=>cases hc;cases h
end
end Go.AM
namespace Go.AM
section
variable {A:St→St→Prop}{t:AT}
def Pu (A:St→St→Prop) (k:St→RV):Prop:=∀ s v s1,k s=.ok v s1→s1=s∧∀ s2,A s s2→k s2=.ok v s2
theorem Pu.fail:Pu A (fun _=>.fail):=fun s v s1 h=>by cases h
theorem Pu.ok (v:AV):Pu A (fun s=>.ok v s):=fun s u s1 h=>by cases h;exact ⟨rfl,fun _ _=>rfl⟩
theorem Pu.ret (x:OV):Pu A (fun s=>ret x s):=fun s u s1 h=>by
 cases x with
 | none=>cases h
 | some v=>cases h;exact ⟨rfl,fun _ _=>rfl⟩
theorem Pu.retO (x:Option AV):Pu A (fun s=>retO x s):=fun s u s1 h=>by
 cases x with
 | none=>cases h
 | some v=>cases h;exact ⟨rfl,fun _ _=>rfl⟩
variable {k:St→RV}
theorem E5 (b:Bool) (h:Pu A k):Pu A (fun s=>gd b (k s)):=by cases b with|true=>exact h|false=>exact .fail
variable {l:St→RV}
theorem Pu.bool (b:Bool) (h:Pu A k) (h':Pu A l):Pu A (fun s=>Bool.rec (k s) (l s) b):=by cases b with|true=>exact h'|false=>exact h
theorem Pu.wth (x:AO) {k:AV→St→RV}(h:∀ a,Pu A (k a)):Pu A (fun s=>wth x t (fun a=>k a s)):=by
 unfold AM.wth
 cases ev x t with
 | none=>exact .fail
 | some v=>exact h v
theorem CQ {α:Type}(x:Option α) {k:α→St→RV}(h':Pu A l) (h:∀ a,Pu A (k a)):Pu A (fun s=>Option.rec (l s) (fun a=>k a s) x):=by cases x with|none=>exact h'|some a=>exact h a
theorem Pu.pr (x:PR) {k:Nat→Nat→St→RV}{kf:List AV→St→RV}(h:∀ a b,Pu A (k a b)) (hf:∀ l,Pu A (kf l)):Pu A (fun s=>PR.rec .fail (fun a b=>k a b s) (fun l=>kf l s) x):=by cases x with|no=>exact .fail|ptr a b=>exact h a b|fp l=>exact hf l
theorem Zp6 (x:IR) {k:IntKind→Int→St→RV}(h:∀ a b,Pu A (k a b)):Pu A (fun s=>IR.rec .fail (fun a b=>k a b s) x):=by cases x with|no=>exact .fail|int a b=>exact h a b
theorem Zp7 (x:BR) (h:Pu A k) (h':Pu A l):Pu A (fun s=>BR.rec .fail (k s) (l s) x):=by cases x with|no=>exact .fail|tt=>exact h|ff=>exact h'
theorem M1 (x:SR) {k:Nat→Nat→Nat→Option Nat→St→RV}{m:St→RV}{kf:Nat→Option Nat→List AV→St→RV}(h:∀ a b c d,Pu A (k a b c d)) (h1:Pu A l) (h2:Pu A m) (hf:∀ a b c,Pu A (kf a b c)):Pu A (fun s=>SR.rec .fail (fun a b c d=>k a b c d s) (l s) (m s) (fun a b c=>kf a b c s) x):=by
 cases x with|no=>exact .fail|sl a b c d=>exact h a b c d|nils=>exact h1|es=>exact h2|fz a b c=>exact hf a b c
theorem Jq (x:LR) {k:List AV→St→RV}(h:∀ a,Pu A (k a)):Pu A (fun s=>LR.rec .fail (fun a=>k a s) x):=by cases x with|no=>exact .fail|l a=>exact h a
theorem Zp5 (x:XR) {k:Nat→AV→St→RV}(h:∀ a b,Pu A (k a b)):Pu A (fun s=>XR.rec .fail (fun a b=>k a b s) x):=by cases x with|no=>exact .fail|x a b=>exact h a b
theorem Ds (x:NR) {k:Nat→St→RV}(h:∀ a,Pu A (k a)):Pu A (fun s=>NR.rec .fail (fun a=>k a s) x):=by cases x with|no=>exact .fail|n a=>exact h a
theorem XV (x:MR) {k:Nat→St→RV}(h:∀ a,Pu A (k a)) (h':Pu A l):Pu A (fun s=>MR.rec .fail (fun a=>k a s) (l s) x):=by cases x with|no=>exact .fail|m a=>exact h a|nil=>exact h'
theorem Zoj {α:Type}(x:List α) {k:α→List α→St→RV}(h:∀ a b,Pu A (k a b)):Pu A (fun s=>List.rec .fail (fun a b _=>k a b s) x):=by cases x with|nil=>exact .fail|cons a b=>exact h a b
theorem Zgp (es r o n:Nat) (cap:Option Nat) (l h:Nat):Pu A (S2 es r o n cap l h):=
 CQ cap (E5 _ (Pu.bool _ (.ok _) (.ok _))) (fun c=>E5 _ (.ok _))
theorem Zgo (es r o n:Nat) (cap:Option Nat) (l h m:Nat):Pu A (Yh es r o n cap l h m):=E5 _ (.ok _)
theorem Zgn (es n:Nat) (cap:Option Nat) (cs:List AV) (l h:Nat):Pu A (M4 es n cap cs l h):=E5 _ (Pu.bool _ (.ok _) (CQ _ .fail fun _=>.ok _))
theorem Zdv (es n:Nat) (cs:List AV) (l h m:Nat):Pu A (Xq es n cs l h m):=E5 _ (Pu.bool _ (.ok _) (CQ _ .fail fun _=>.ok _))
def RE (p:AOp):Bool:=!Ir p && !GX p && !Fo p
variable {e:Env}{rec:Rec}{p:AOp}
theorem Wa (hp:RE p=true):Pu A (AL p e rec t):=by
 cases p with
 | mv x=>exact Pu.wth x fun a=>.ok a
 | pick c a b=>exact Pu.wth c fun _=>Zp7 _ (.ret _) (.ret _)
 | build z ps=>exact CQ _ .fail fun cs=>.ok _
 | nilck x=>exact Pu.wth x fun a=>Pu.bool _ (.ok _) .fail
 | bin op x y=>exact Pu.wth x fun a=>Pu.wth y fun b=>.ret _
 | eqb kd neg x y=>exact Pu.wth x fun a=>Pu.wth y fun b=>CQ _ .fail fun c=>.ok _
 | eqf ks neg x y=>exact Pu.wth x fun a=>Pu.wth y fun b=>Jq _ fun a=>Jq _ fun b=>CQ _ .fail fun c=>.ok _
 | un op x=>exact Pu.wth x fun a=>.ret _
 | cvi k x=>exact Pu.wth x fun a=>Zp6 _ fun _ n=>.ok _
 | mkfn f a b=>exact CQ _ .fail fun x=>CQ _ .fail fun y=>.ok _
 | slc es x lo hi mx=>
  exact Pu.wth x fun a=>M1 _
   (fun r o n cap=>Ds _ fun l=>Ds _ fun h=>CQ mx (Zgp _ _ _ _ _ _ _) fun m=>Ds _ fun m=>Zgo _ _ _ _ _ _ _ _)
   (Ds _ fun l=>Ds _ fun h=>Ds _ fun m=>E5 _ (.ok _)) (Ds _ fun l=>Ds _ fun h=>Ds _ fun m=>E5 _ (.ok _))
   (fun n cap cs=>Ds _ fun l=>Ds _ fun h=>CQ mx (Zgn _ _ _ _ _ _) fun m=>Ds _ fun m=>Zdv _ _ _ _ _ _)
 | sla es n x lo hi mx=>exact Pu.wth x fun a=>Pu.pr _ (fun r o=>Ds _ fun l=>Ds _ fun h=>Ds _ fun m=>E5 _ (.ok _)) (fun _=>.fail)
 | fa off x=>exact Pu.wth x fun a=>Pu.pr _ (fun r o=>.ok _) (fun _=>.ok _)
 | fld1 off x=>exact Pu.wth x fun a=>Jq _ fun l=>.retO _
 | fldn off n x=>exact Pu.wth x fun a=>Jq _ fun l=>CQ _ .fail fun cs=>.ok _
 | ixs es x i=>exact Pu.wth x fun a=>Pu.wth i fun i=>Ds _ fun i=>M1 _ (fun r o n _=>E5 _ (.ok _)) .fail .fail (fun _ _ _=>E5 _ (.ok _))
 | ixa n es x i=>exact Pu.wth x fun a=>Pu.wth i fun i=>Ds _ fun i=>Pu.pr _ (fun r o=>E5 _ (.ok _)) (fun _=>E5 _ (.ok _))
 | ixv n x i=>exact Pu.wth x fun a=>Pu.wth i fun i=>Ds _ fun i=>Jq _ fun l=>E5 _ (.retO _)
 | ixvn n es x i=>exact Pu.wth x fun a=>Pu.wth i fun i=>Ds _ fun i=>Jq _ fun l=>E5 _ (CQ _ .fail fun cs=>.ok _)
 | mki ty x=>exact Pu.wth x fun a=>.ok _
 | tas ty z x=>exact Pu.wth x fun a=>Zp5 _ fun _ _=>.ok _
 | ext x i=>exact Pu.wth x fun a=>Jq _ fun l=>.retO _
 | len x=>exact Pu.wth x fun a=>M1 _ (fun _ _ n _=>.ok _) (.ok _) (.ok _) (fun _ _ _=>.ok _)
 | alen n=>exact .ok _
 | mn m xs=>exact CQ _ .fail fun l=>Zoj l fun x l=>.ret _
 | capo x=>exact Pu.wth x fun a=>M1 _ (fun _ _ _ cap=>CQ cap .fail fun c=>.ok _) .fail .fail (fun _ cap _=>CQ cap .fail fun c=>.ok _)
 | bad=>exact .fail
 | _=>cases hp
def Grows (s s2:St):Prop:=∀ r x,s.get r=some x→s2.get r=some x
theorem TQ {s s2:St}(h:Grows s s2) {r e:Nat}{cs:List AV}(hr:Dc r s=.row e cs):Dc r s2=.row e cs:=by
 have:=h r _ (JF hr)
 unfold Dc;rw [this];rfl
theorem Pu.load1 (r o:Nat):Pu Grows (fun s=>AM.retO (AM.load1 r o s) s):=by
 intro s v s1 h
 obtain ⟨h1,h2⟩:=JZ h
 subst h2
 refine ⟨rfl,fun s2 hg=>?_⟩
 have hl2:AM.load1 r o s2=some v:=by
  unfold AM.load1 at h1 ⊢
  cases hr:Dc r s with
  | no=>rw [hr] at h1;cases h1
  | row e cs=>rw [hr] at h1;rw [TQ hg hr];exact h1
 show AM.retO (AM.load1 r o s2) s2=_
 rw [hl2];rfl
theorem Pu.load (r o n:Nat) {k:List AV→St→RV}(hk:∀ cs,Pu Grows (k cs)):Pu Grows (fun s=>Option.rec .fail (fun cs=>k cs s) (AM.load r o n s)):=by
 intro s v s1 h
 obtain ⟨cs,hl,h⟩:=AI h
 obtain ⟨e1,hk'⟩:=hk cs s v s1 h
 subst e1
 refine ⟨rfl,fun s2 hg=>?_⟩
 have hl2:AM.load r o n s2=some cs:=by
  unfold AM.load at hl ⊢
  cases hr:Dc r s1 with
  | no=>rw [hr] at hl;cases hl
  | row e rs=>rw [hr] at hl;rw [TQ hg hr];exact hl
 show (Option.rec .fail (fun cs=>k cs s2) (AM.load r o n s2):RV)=_
 rw [hl2];exact hk' s2 hg
theorem Pu.mapAt (r:Nat) {k:List (AV×AV×Nat)×Nat→St→RV}(hk:∀ m,Pu Grows (k m)):Pu Grows (fun s=>Option.rec .fail (fun m=>k m s) (AM.mapAt r s)):=by
 intro s v s1 h
 obtain ⟨m,hl,h⟩:=AI h
 obtain ⟨e1,hk'⟩:=hk m s v s1 h
 subst e1
 refine ⟨rfl,fun s2 hg=>?_⟩
 have hl2:AM.mapAt r s2=some m:=by
  obtain ⟨es,c⟩:=m
  have:=hg r _ (HF hl)
  unfold AM.mapAt;rw [this]
 show (Option.rec .fail (fun m=>k m s2) (AM.mapAt r s2):RV)=_
 rw [hl2];exact hk' s2 hg
theorem Vr (z:AV) (ok:Bool) (f:Option AV):Pu A (Sh z ok f):=CQ f (.ok _) fun v=>.ok _
theorem Rd (hp:GX p=true):Pu Grows (AL p e rec t):=by
 cases p with
 | ld1 x=>exact Pu.wth x fun a=>Pu.pr _ (fun r o=>Pu.load1 r o) (fun _=>.retO _)
 | ldn n x=>exact Pu.wth x fun a=>Pu.pr _ (fun r o=>Pu.load r o n fun cs=>.ok _) (fun _=>CQ _ .fail fun _=>.ok _)
 | b2s x=>exact Pu.wth x fun a=>M1 _ (fun r o n _=>Pu.load r o n fun cs=>CQ _ .fail fun l=>.ok _) (.ok _) (.ok _) (fun _ _ _=>CQ _ .fail fun _=>CQ _ .fail fun _=>.ok _)
 | lenm x=>exact Pu.wth x fun a=>XV _ (fun r=>Pu.mapAt r fun m=>.ok _) (.ok _)
 | mget z ok m k=>exact Pu.wth m fun m=>Pu.wth k fun k=>XV _ (fun r=>Pu.mapAt r fun mp=>CQ _ .fail fun f=>Vr _ _ _) (Vr _ _ _)
 | _=>cases hp
theorem Ze9:∀ {a b:List Nat},EW a b=true→a=b:=by
 intro a
 induction a with
 | nil=>intro b h;cases b with|nil=>rfl|cons y b=>cases h
 | cons x a ih=>
  intro b h
  cases b with
  | nil=>cases h
  | cons y b=>
   change (Bool.rec false (EW a b) (Nat.beq x y):Bool)=true at h
   cases hb:Nat.beq x y with
   | false=>rw [hb] at h;cases h
   | true=>rw [hb] at h;rw [Zqf hb,ih h]
theorem FE {a b:Bool}(h:(Bool.rec false b a:Bool)=true):a=true∧b=true:=by cases a with|false=>cases h|true=>exact ⟨rfl,h⟩
theorem Zip {a b:Int}(h:Dw a b=true):a=b:=by
 cases a with
 | ofNat a=>cases b with
  | ofNat b=>rw [Zqf (show Nat.beq a b=true from h)]
  | negSucc b=>cases h
 | negSucc a=>cases b with
  | ofNat b=>cases h
  | negSucc b=>rw [Zqf (show Nat.beq a b=true from h)]
theorem Zio {a b:IntKind}(h:Cd a b=true):a=b:=by cases a <;> cases b <;> first|rfl|cases h
theorem Zca {α:Type}{l:List α}(h:RF l=true):l=[]:=by cases l with|nil=>rfl|cons=>cases h
theorem Wu {a b:Option Nat}(h:Hq a b=true):a=b:=by
 cases a with
 | none=>cases b with|none=>rfl|some y=>cases h
 | some x=>cases b with|none=>cases h|some y=>rw [Zqf (show Nat.beq x y=true from h)]
theorem UO:∀ a:List Nat,EW a a=true
 | []=>rfl
 | x::a=>by show (Bool.rec false (EW a a) (Nat.beq x x):Bool)=true;rw [Zrw];exact UO a
theorem Zfb (a:Int):Dw a a=true:=by cases a with|ofNat a=>exact Zrw a|negSucc a=>exact Zrw a
theorem Zfa (a:IntKind):Cd a a=true:=by cases a <;> rfl
theorem UN (a:Option Nat):Hq a a=true:=by cases a with|none=>rfl|some a=>exact Zrw a
mutual
theorem RM:∀ (a:AV) {b:AV},JA a b=true→a=b
 | .bool x,b,h=>by cases b <;> first|(cases h;done)|skip
                   rename_i y;cases x <;> cases y <;> first|rfl|cases h
 | .int k n,b,h=>by cases b <;> first|(cases h;done)|skip
                    rename_i k' n'
                    obtain ⟨h1,h2⟩:=FE (show (Bool.rec false (Dw n n') (Cd k k'):Bool)=true from h)
                    rw [Zio h1,Zip h2]
 | .str l,b,h=>by cases b <;> first|(cases h;done)|skip
                  rw [Ze9 h]
 | .ptr r o,b,h=>by cases b <;> first|(cases h;done)|skip
                    obtain ⟨h1,h2⟩:=FE h
                    rw [Zqf h1,Zqf h2]
 | .nilp,b,h=>by cases b <;> first|rfl|cases h
 | .sl r o n c,b,h=>by cases b <;> first|(cases h;done)|skip
                       obtain ⟨h1,h⟩:=FE h
                       obtain ⟨h2,h⟩:=FE h
                       obtain ⟨h3,h4⟩:=FE h
                       rw [Zqf h1,Zqf h2,Zqf h3,Wu h4]
 | .nils,b,h=>by cases b <;> first|rfl|cases h
 | .es,b,h=>by cases b <;> first|rfl|cases h
 | .ez,b,h=>by cases b <;> first|rfl|cases h
 | .map r,b,h=>by cases b <;> first|(cases h;done)|skip
                  rw [Zqf h]
 | .nilm,b,h=>by cases b <;> first|rfl|cases h
 | .fn f x y,b,h=>by cases b <;> first|(cases h;done)|skip
                     rename_i f' x' y'
                     obtain ⟨h1,h⟩:=FE (show (Bool.rec false (Bool.rec false (EX y y') (EX x x')) (Nat.beq f f'):Bool)=true from h)
                     obtain ⟨h2,h3⟩:=FE h
                     rw [Zqf h1,IV x h2,IV y h3]
 | .yld l,b,h=>by cases b <;> first|(cases h;done)|skip
                  rw [Zqf h]
 | .nilf,b,h=>by cases b <;> first|rfl|cases h
 | .iface t v,b,h=>by cases b <;> first|(cases h;done)|skip
                      rename_i t' v'
                      obtain ⟨h1,h2⟩:=FE (show (Bool.rec false (JA v v') (Nat.beq t t'):Bool)=true from h)
                      rw [Zqf h1,RM v h2]
 | .nili,b,h=>by cases b <;> first|rfl|cases h
 | .agg l,b,h=>by cases b <;> first|(cases h;done)|skip
                  rename_i l';rw [IV l (show EX l l'=true from h)]
 | .tup l,b,h=>by cases b <;> first|(cases h;done)|skip
                  rename_i l';rw [IV l (show EX l l'=true from h)]
 | .any,b,h=>by cases b <;> first|rfl|cases h
 | .fz n c l,b,h=>by cases b <;> first|(cases h;done)|skip
                     rename_i n' c' l'
                     obtain ⟨h1,h⟩:=FE (show (Bool.rec false (Bool.rec false (EX l l') (Hq c c')) (Nat.beq n n'):Bool)=true from h)
                     obtain ⟨h2,h3⟩:=FE h
                     rw [Zqf h1,Wu h2,IV l h3]
 | .fp l,b,h=>by cases b <;> first|(cases h;done)|skip
                 rename_i l';rw [IV l (show EX l l'=true from h)]
theorem IV:∀ (a:List AV) {b:List AV},EX a b=true→a=b
 | [],b,h=>(Zca h).symm
 | x::a,b,h=>by
  cases b with
  | nil=>cases h
  | cons y b=>
   obtain ⟨h1,h2⟩:=FE (show (Bool.rec false (EX a b) (JA x y):Bool)=true from h)
   rw [RM x h1,IV a h2]
end
theorem Zlz {a b:AV}(h:BU a b=true):a=b:=RM a h
mutual
theorem QF:∀ (a:AV),JA a a=true
 | .bool x=>by cases x <;> rfl
 | .int k n=>by show (Bool.rec false (Dw n n) (Cd k k):Bool)=true;rw [Zfa];exact Zfb n
 | .str l=>UO l
 | .ptr r o=>by show (Bool.rec false (Nat.beq o o) (Nat.beq r r):Bool)=true;rw [Zrw r];exact Zrw o
 | .nilp=>rfl
 | .sl r o n c=>by show (Bool.rec false (Bool.rec false (Bool.rec false (Hq c c) (Nat.beq n n)) (Nat.beq o o)) (Nat.beq r r):Bool)=true;rw [Zrw r,Zrw o,Zrw n];exact UN c
 | .nils=>rfl
 | .es=>rfl
 | .ez=>rfl
 | .map r=>Zrw r
 | .nilm=>rfl
 | .fn f x y=>by show (Bool.rec false (Bool.rec false (EX y y) (EX x x)) (Nat.beq f f):Bool)=true;rw [Zrw,IK x];exact IK y
 | .yld l=>Zrw l
 | .nilf=>rfl
 | .iface t v=>by show (Bool.rec false (JA v v) (Nat.beq t t):Bool)=true;rw [Zrw];exact QF v
 | .nili=>rfl
 | .agg l=>IK l
 | .tup l=>IK l
 | .any=>rfl
 | .fz n c l=>by show (Bool.rec false (Bool.rec false (EX l l) (Hq c c)) (Nat.beq n n):Bool)=true;rw [Zrw,UN];exact IK l
 | .fp l=>IK l
theorem IK:∀ (a:List AV),EX a a=true
 | []=>rfl
 | x::a=>by show (Bool.rec false (EX a a) (JA x x):Bool)=true;rw [QF x];exact IK a
end
end
end Go.AM
namespace Go.AM
section
variable {P:Program}{N:Nat}
variable {ops:Array Oper}
theorem YV:∀ {l:List Oper}{cs:List AOper},GM P N ops l=some cs→cs.length=l.length∧∀ (i:Nat) (o:Oper),l[i]?=some o→
 ∃ d p g,cs[i]?=some (.mk d p g)∧E3 N o.dst=some d∧Il P o=some p∧Gl ops N o.guard=some g:=by
 intro l
 induction l with
 | nil=>intro cs h;cases h;exact ⟨rfl,fun i o h=>by simp at h⟩
 | cons o l ih=>
  intro cs h
  simp only [GM] at h
  split at h
  ·rename_i d p g r h1 h2 h3 h4
   cases h
   obtain ⟨hl,hr⟩:=ih h4
   refine ⟨by simp [hl],fun i o' hi=>?_⟩
   cases i with
   | zero=>simp at hi;subst hi;exact ⟨d,p,g,by simp,h1,h2,h3⟩
   | succ i=>simpa using hr i o' (by simpa using hi)
  ·cases h
variable {cs:List AOper}
theorem Zt:∀ {its:List It}{al:List AOper},NY cs its=some al→al.length=its.length∧∀ (q:Nat) (x:It),its[q]?=some x→∃ a,al[q]?=some a∧Kk cs x=some a:=by
 intro its
 induction its with
 | nil=>intro al h;cases h;exact ⟨rfl,fun q x h=>by simp at h⟩
 | cons y its ih=>
  intro al h
  simp only [NY] at h
  split at h
  ·rename_i a r h1 h2
   cases h
   obtain ⟨hl,hr⟩:=ih h2
   refine ⟨by simp [hl],fun q x hq=>?_⟩
   cases q with
   | zero=>simp at hq;subst hq;exact ⟨a,by simp,h1⟩
   | succ q=>simpa using hr q x (by simpa using hq)
  ·cases h
theorem Z3:∀ (l:List Oper) (acc:List Nat),∃ r,B9 l acc=acc++r∧r.length=l.length:=by
 intro l
 induction l with
 | nil=>intro acc;exact ⟨[],by simp [B9],rfl⟩
 | cons o l ih=>
  intro acc
  obtain ⟨r,h1,h2⟩:=ih (acc++[FD acc o.after.toList])
  exact ⟨FD acc o.after.toList::r,by simp [B9,h1],by simp [h2]⟩
theorem Z2:∀ (l:List Oper) (acc:List Nat) (i:Nat) (o:Oper),l[i]?=some o→∃ pre,pre.length=acc.length+i∧(∀ k,k<acc.length+i→(B9 l acc).getD k 0=pre.getD k 0)∧(B9 l acc).getD (acc.length+i) 0=FD pre o.after.toList:=by
 intro l
 induction l with
 | nil=>intro acc i o h;simp at h
 | cons o0 l ih=>
  intro acc i o h
  cases i with
  | zero=>
   simp at h;subst h
   obtain ⟨r,h1,h2⟩:=Z3 l (acc++[FD acc o0.after.toList])
   refine ⟨acc,by simp,?_,?_⟩
   ·intro k hk
    simp only [B9,h1]
    rw [List.append_assoc,Zq2,Zqt (by omega),Zq2]
   ·simp only [B9,h1]
    rw [List.append_assoc,Zq2,Zq4 (by omega)]
    simp
  | succ i=>
   obtain ⟨pre,h1,h2,h3⟩:=ih (acc++[FD acc o0.after.toList]) i o (by simpa using h)
   simp only [Zqn,Zq3,List.length_nil] at h1 h2 h3
   refine ⟨pre,by omega,fun k hk=>?_,?_⟩
   ·simp only [B9];exact h2 k (by omega)
   ·simp only [B9];rw [show acc.length+(i+1)=acc.length+1+i by omega];exact h3
variable {j:Nat}
theorem Zc {acc:List Nat}:∀ {l:List Edge},(FD acc l).testBit j=true→∃ e ∈ l,Region.binds .any e=true∧(j=e.on∨(acc.getD e.on 0).testBit j=true):=by
 intro l
 induction l with
 | nil=>intro h;simp [FD] at h
 | cons e l ih=>
  intro h
  simp only [FD] at h
  split at h
  ·rename_i hb
   rw [Nat.testBit_or,Nat.testBit_or,Zry,Zry] at h
   rcases h with (h|h)|h
   ·rw [Nat.testBit_two_pow] at h
    exact ⟨e,by simp,hb,.inl (Zrq h).symm⟩
   ·exact ⟨e,by simp,hb,.inr h⟩
   ·obtain ⟨e',h1,h2,h3⟩:=ih h;exact ⟨e',by simp [h1],h2,h3⟩
  ·obtain ⟨e',h1,h2,h3⟩:=ih h;exact ⟨e',by simp [h1],h2,h3⟩
variable {i:Nat}
theorem Ub {o:Oper}(ho:ops[i]?=some o) (h:((B9 ops.toList []).getD i 0).testBit j=true):
 ∃ e ∈ o.after.toList,Region.binds .any e=true∧(j=e.on∨(e.on<i∧((B9 ops.toList []).getD e.on 0).testBit j=true)):=by
 obtain ⟨pre,h1,h2,h3⟩:=Z2 ops.toList [] i o (by simpa using ho)
 simp only [List.length_nil,Zqo] at h1 h2 h3
 rw [h3] at h
 obtain ⟨e,he,hb,hj⟩:=Zc h
 refine ⟨e,he,hb,?_⟩
 rcases hj with hj|hj
 ·exact .inl hj
 ·by_cases hlt:e.on<i
  ·rw [← h2 e.on hlt] at hj;exact .inr ⟨hlt,hj⟩
  ·rw [Zq2,Zsa (by omega)] at hj;simp at hj
theorem Ur:∀ {l:List Oper}{k:Nat},Ha l k=true→∀ (i:Nat) (o:Oper),l[i]?=some o→∀ e ∈ o.after.toList,Region.binds .any e=true→e.on<k+i:=by
 intro l
 induction l with
 | nil=>intro k _ i o h;simp at h
 | cons o0 l ih=>
  intro k h i o ho e he hb
  simp only [Ha,Zqb] at h
  cases i with
  | zero=>
   simp at ho;subst ho
   have:=Zr7.1 h.1 e he
   simpa [hb] using this
  | succ i=>have:=ih h.2 i o (by simpa using ho) e he hb;omega
theorem UW (hback:Ha ops.toList 0=true):∀ (i j:Nat),i<ops.size→((B9 ops.toList []).getD i 0).testBit j=true→j<i:=by
 intro i
 induction i using Nat.strongRecOn with
 | _ i ih=>
  intro j hi h
  obtain ⟨o,ho⟩:∃ o,ops[i]?=some o:=⟨ops[i],by simp [hi]⟩
  obtain ⟨e,he,hb,hj⟩:=Ub ho h
  have hlt:=Ur hback i o (by simpa using ho) e he hb
  rcases hj with rfl|⟨h1,h2⟩
  ·omega
  ·have:=ih e.on (by omega) j (by omega) h2;omega
def Ky (ops:Array Oper) (D:Nat→Prop):Prop:=∀ i o,ops[i]?=some o→D i→∀ e ∈ o.after.toList,Region.binds .any e=true→D e.on
variable {D:Nat→Prop}
theorem TA (hback:Ha ops.toList 0=true) (hD:Ky ops D):∀ (i:Nat) (o:Oper),ops[i]?=some o→(∀ e ∈ o.after.toList,Region.binds .any e=true→D e.on)→∀ j,((B9 ops.toList []).getD i 0).testBit j=true→D j:=by
 intro i
 induction i using Nat.strongRecOn with
 | _ i ih=>
  intro o ho hr j h
  obtain ⟨e,he,hb,hj⟩:=Ub ho h
  have hde:=hr e he hb
  rcases hj with rfl|⟨h1,h2⟩
  ·exact hde
  ·have hi:i<ops.size:=(Zrd.1 ho).1
   have hlt:e.on<ops.size:=by omega
   obtain ⟨o',ho'⟩:∃ o',ops[e.on]?=some o':=⟨ops[e.on],by simp [hlt]⟩
   exact ih e.on h1 o' ho' (hD e.on o' ho' hde) j h2
theorem US (hback:Ha ops.toList 0=true) (hD:Ky ops D) (hi:i<ops.size) (hd:D i) (h:((B9 ops.toList []).getD i 0).testBit j=true):D j:=by
 obtain ⟨o,ho⟩:∃ o,ops[i]?=some o:=⟨ops[i],by simp [hi]⟩
 exact TA hback hD i o ho (hD i o ho hd) j h
variable {bf:List Nat}
theorem Zp {ds:List (Option Nat)}{rs:List (List Nat)}:∀ {its:List It},LJ bf cs ds rs its=true→
 (∀ (q:Nat) j,its[q]?=some (.op j)→R3 ds rs j=true)∧∀ (q' q:Nat) j i,q'<q→its[q']?=some (.op j)→its[q]?=some (.op i)→R6 bf cs ds rs j i=true:=by
 intro its
 induction its with
 | nil=>intro _;exact ⟨fun q j h=>by simp at h,fun q' q j i _ h=>by simp at h⟩
 | cons x its ih=>
  intro h
  cases x with
  | chk k=>
   obtain ⟨h1,h2⟩:=ih h
   refine ⟨fun q j hq=>?_,fun q' q j i hlt hq' hq=>?_⟩
   ·cases q with
    | zero=>simp at hq
    | succ q=>exact h1 q j (by simpa using hq)
   ·cases q' with
    | zero=>simp at hq'
    | succ q'=>
     cases q with
     | zero=>omega
     | succ q=>exact h2 q' q j i (by omega) (by simpa using hq') (by simpa using hq)
  | op k=>
   simp only [LJ,Zqb] at h
   obtain ⟨h1,h2⟩:=ih h.2
   refine ⟨fun q j hq=>?_,fun q' q j i hlt hq' hq=>?_⟩
   ·cases q with
    | zero=>simp at hq;subst hq;exact h.1.1
    | succ q=>exact h1 q j (by simpa using hq)
   ·cases q with
    | zero=>omega
    | succ q=>
     cases q' with
     | zero=>
      simp at hq';subst hq'
      exact Zr7.1 h.1.2 (.op i) (Zqv (by simpa using hq))
     | succ q'=>exact h2 q' q j i (by omega) (by simpa using hq') (by simpa using hq)
theorem Zce:∀ {its:List It},Mv i its=true→∃ q:Nat,its[q]?=some (.op i):=by
 intro its
 induction its with
 | nil=>intro h;cases h
 | cons x its ih=>
  intro h
  cases x with
  | op j=>
   simp only [Mv,Zry] at h
   rcases h with h|h
   ·exact ⟨0,by simp at h;simp [h]⟩
   ·obtain ⟨q,hq⟩:=ih h;exact ⟨q+1,by simpa using hq⟩
  | chk j=>obtain ⟨q,hq⟩:=ih h;exact ⟨q+1,by simpa using hq⟩
theorem ZF:∀ {l:List It},IX cs i l=true→∃ c:Nat,l[c]?=some (.chk i)∧∀ k j,k<c→l[k]?=some (.op j)→BM cs j=false:=by
 intro l
 induction l with
 | nil=>intro h;cases h
 | cons x l ih=>
  intro h
  cases x with
  | chk j=>
   simp only [IX,Zry] at h
   rcases h with h|h
   ·exact ⟨0,by simp at h;simp [h],fun k j hk=>by omega⟩
   ·obtain ⟨c,h1,h2⟩:=ih h
    refine ⟨c+1,by simpa using h1,fun k j' hk hj=>?_⟩
    cases k with
    | zero=>simp at hj
    | succ k=>exact h2 k j' (by omega) (by simpa using hj)
  | op j=>
   simp only [IX,Zqb] at h
   obtain ⟨c,h1,h2⟩:=ih h.2
   refine ⟨c+1,by simpa using h1,fun k j' hk hj=>?_⟩
   cases k with
   | zero=>simp at hj;subst hj;simpa [BM] using h.1
   | succ k=>exact h2 k j' (by omega) (by simpa using hj)
theorem Zam:∀ {l:List It},Jc bf cs i l=true→∀ (q j:Nat),l[q]?=some (.op j)→BM cs j=true→(bf.getD j 0).testBit i=false→∃ c:Nat,q<c∧l[c]?=some (.chk i)∧∀ k j',q<k→k<c→l[k]?=some (.op j')→BM cs j'=false:=by
 intro l
 induction l with
 | nil=>intro _ q j h;simp at h
 | cons x l ih=>
  intro h q j hq he hb
  cases x with
  | chk k=>
   cases q with
   | zero=>simp at hq
   | succ q=>
    obtain ⟨c,h1,h2,h3⟩:=ih h q j (by simpa using hq) he hb
    refine ⟨c+1,by omega,by simpa using h2,fun k j' hk hk' hj=>?_⟩
    cases k with
    | zero=>omega
    | succ k=>exact h3 k j' (by omega) (by omega) (by simpa using hj)
  | op k=>
   simp only [Jc,Zqb] at h
   cases q with
   | zero=>
    simp at hq;subst hq
    have h1:(!BM cs k || (bf.getD k 0).testBit i || IX cs i l)=true:=h.1
    rw [he,hb] at h1
    obtain ⟨c,c1,c2⟩:=ZF (by simpa using h1)
    refine ⟨c+1,by omega,by simpa using c1,fun m j' hm hm' hj=>?_⟩
    cases m with
    | zero=>omega
    | succ m=>exact c2 m j' (by omega) (by simpa using hj)
   | succ q=>
    obtain ⟨c,h1,h2,h3⟩:=ih h.2 q j (by simpa using hq) he hb
    refine ⟨c+1,by omega,by simpa using h2,fun k j' hk hk' hj=>?_⟩
    cases k with
    | zero=>omega
    | succ k=>exact h3 k j' (by omega) (by omega) (by simpa using hj)
theorem Zu:∀ {its:List It},LK bf cs its=true→∀ (q i:Nat),its[q]?=some (.op i)→loadAt cs i=true→Jc bf cs i (its.drop (q+1))=true:=by
 intro its
 induction its with
 | nil=>intro _ q i h;simp at h
 | cons x its ih=>
  intro h q i hq hl
  cases x with
  | chk k=>
   cases q with
   | zero=>simp at hq
   | succ q=>simpa using ih h q i (by simpa using hq) hl
  | op k=>
   simp only [LK,Zqb] at h
   cases q with
   | zero=>
    simp at hq;subst hq
    have h1:=h.1
    unfold loadAt at hl
    cases hc:cs[k]? with
    | none=>rw [hc] at hl;cases hl
    | some c=>rw [hc] at hl h1;simp only at hl h1;rw [hl] at h1;simpa using h1
   | succ q=>simpa using ih h.2 q i (by simpa using hq) hl
end
end Go.AM
namespace Go.AM
structure Plan (P:Program) (N:Nat) (ops:Array Oper) (cs:List AOper) (its:List It) (al:List AOper):Prop where
 cs_get:∀ (i:Nat) (o:Oper),ops[i]?=some o→∃ d p g,cs[i]?=some (AOper.mk d p g)∧E3 N o.dst=some d∧Il P o=some p∧Gl ops N o.guard=some g
 back:Ha ops.toList 0=true
 has:∀ i,i<ops.size→∃ q:Nat,its[q]?=some (.op i)
 lt:∀ (q i:Nat),its[q]?=some (.op i)→i<ops.size
 reads:∀ (q i j:Nat) (oi oj:Oper) (x:Nat),its[q]?=some (.chk i)→ops[i]?=some oi→ops[j]?=some oj→oj.dst=some x→x ∈ Eb ops oi→((B9 ops.toList []).getD i 0).testBit j=true
 self:∀ (q i:Nat) (o:Oper) (x:Nat),its[q]?=some (.op i)→ops[i]?=some o→o.dst=some x→x ∉ Eb ops o
 ne:∀ (q' q j i:Nat),q'<q→its[q']?=some (.op j)→its[q]?=some (.op i)→i≠j
 eff:∀ (q' q j i:Nat),q'<q→its[q']?=some (.op j)→its[q]?=some (.op i)→BM cs j=true→((B9 ops.toList []).getD i 0).testBit j=true
 dst:∀ (q' q j i:Nat) (oj oi:Oper) (x:Nat),q'<q→its[q']?=some (.op j)→its[q]?=some (.op i)→ops[j]?=some oj→ops[i]?=some oi→oj.dst=some x→oi.dst≠some x
 rd1:∀ (q' q j i:Nat) (oj oi:Oper) (x:Nat),q'<q→its[q']?=some (.op j)→its[q]?=some (.op i)→ops[j]?=some oj→ops[i]?=some oi→oj.dst=some x→x ∈ Eb ops oi→((B9 ops.toList []).getD i 0).testBit j=true
 rd2:∀ (q' q j i:Nat) (oj oi:Oper) (x:Nat),q'<q→its[q']?=some (.op j)→its[q]?=some (.op i)→ops[j]?=some oj→ops[i]?=some oi→oi.dst=some x→x ∈ Eb ops oj→((B9 ops.toList []).getD i 0).testBit j=true
 loads:∀ (q i:Nat),its[q]?=some (.op i)→loadAt cs i=true→Jc (B9 ops.toList []) cs i (its.drop (q+1))=true
 al_len:al.length=its.length
 al_get:∀ (q:Nat) (x:It),its[q]?=some x→∃ a,al[q]?=some a∧Kk cs x=some a
section
variable {P:Program}{N:Nat}{ops:Array Oper}{cs:List AOper}{its:List It}{al:List AOper}
variable {i:Nat}{o:Oper}
theorem O6 (h:ops[i]?=some o):(ops.toList.map (·.dst)).getD i none=o.dst:=by
 rw [Zq2,Zq8];simp [h]
theorem Ok (h:ops[i]?=some o):(ops.toList.map (Eb ops)).getD i []=Eb ops o:=by
 rw [Zq2,Zq8];simp [h]
theorem Zg1 (h:HR P N ops=some al):∃ cs its,Plan P N ops cs its al:=by
 unfold HR at h
 split at h
 ·cases h
 ·rename_i cs hcs
  simp only at h
  split at h
  ·rename_i hok
   refine ⟨cs,QT (B9 ops.toList []) cs ops.size,?_⟩
   generalize QT (B9 ops.toList []) cs ops.size=its at h hok
   simp only [Xa,Zqb] at hok
   obtain ⟨⟨⟨⟨⟨h1,h2⟩,h3⟩,h4⟩,h5⟩,_⟩:=hok
   obtain ⟨c1,c2⟩:=YV hcs
   obtain ⟨p1,p2⟩:=Zp h4
   obtain ⟨m1,m2⟩:=Zt h
   have pr:∀ (q' q j i:Nat) (oj oi:Oper),q'<q→its[q']?=some (.op j)→its[q]?=some (.op i)→ops[j]?=some oj→ops[i]?=some oi→
    (i≠j∧(((B9 ops.toList []).getD i 0).testBit j=true∨BM cs j=false))∧
    (∀ x,oj.dst=some x→oi.dst≠some x∧(((B9 ops.toList []).getD i 0).testBit j=true∨x ∉ Eb ops oi))∧
    (∀ x,oi.dst=some x→(((B9 ops.toList []).getD i 0).testBit j=true∨x ∉ Eb ops oj)):=by
    intro q' q j i oj oi hlt hq' hq hj hi
    have hp:=p2 q' q j i hlt hq' hq
    simp only [R6,O6 hj,O6 hi,Ok hj,Ok hi,Zqb] at hp
    obtain ⟨⟨⟨a1,a2⟩,a3⟩,a4⟩:=hp
    refine ⟨⟨by simpa using a1,?_⟩,?_,?_⟩
    ·have a2':(((B9 ops.toList []).getD i 0).testBit j || !BM cs j)=true:=a2
     rw [Zry] at a2'
     rcases a2' with a|a
     ·exact .inl a
     ·exact .inr (by simpa using a)
    ·intro x hx
     rw [hx] at a3
     simp only [Zqb,Zry,bne_iff_ne,ne_eq] at a3
     refine ⟨a3.1,a3.2.imp id fun hh=>?_⟩
     simpa using hh
    ·intro x hx
     rw [hx] at a4
     simp only [Zry] at a4
     refine a4.imp id fun hh=>?_
     simpa using hh
   have getO:∀ i,i<ops.size→∃ o,ops[i]?=some o:=fun i hi=>⟨ops[i],by simp [hi]⟩
   have hlt:∀ (q i:Nat),its[q]?=some (.op i)→i<ops.size:=by
    intro q i hq
    have:=Zr7.1 h3 _ (Zqv hq)
    simpa using this
   have ne0:∀ (q' q j i:Nat),q'<q→its[q']?=some (.op j)→its[q]?=some (.op i)→i≠j:=by
    intro q' q j i hl hq' hq
    obtain ⟨oj,hj⟩:=getO j (hlt _ _ hq')
    obtain ⟨oi,hi⟩:=getO i (hlt _ _ hq)
    exact (pr q' q j i oj oi hl hq' hq hj hi).1.1
   refine ⟨fun i o ho=>c2 i o (by simpa using ho),h1,?_,hlt,?_,?_,ne0,?_,?_,?_,?_,fun q i hq hl=>Zu h5 q i hq hl,m1,m2⟩
   ·intro i hi
    exact Zce (Zr7.1 h2 i (by simpa using hi))
   ·intro q i j oi oj x hq hi hj hx hm
    have:=Zr7.1 h3 _ (Zqv hq)
    simp only [VZ] at this
    have hjlt:j<ops.size:=(Zrd.1 hj).1
    have:=Zr7.1 this j (by simpa using hjlt)
    rw [O6 hj,hx,Ok hi] at this
    simp only [Zry] at this
    rcases this with h|h
    ·exact h
    ·exact absurd hm (by simpa using h)
   ·intro q i o x hq hi hx
    have:=p1 q i hq
    simp only [R3,O6 hi,hx,Ok hi] at this
    simpa using this
   ·intro q' q j i hl hq' hq he
    obtain ⟨oj,hj⟩:=getO j (hlt _ _ hq')
    obtain ⟨oi,hi⟩:=getO i (hlt _ _ hq)
    rcases (pr q' q j i oj oi hl hq' hq hj hi).1.2 with a|a
    ·exact a
    ·rw [he] at a;cases a
   ·intro q' q j i oj oi x hl hq' hq hj hi hx
    exact ((pr q' q j i oj oi hl hq' hq hj hi).2.1 x hx).1
   ·intro q' q j i oj oi x hl hq' hq hj hi hx hm
    rcases ((pr q' q j i oj oi hl hq' hq hj hi).2.1 x hx).2 with a|a
    ·exact a
    ·exact absurd hm a
   ·intro q' q j i oj oi x hl hq' hq hj hi hx hm
    rcases (pr q' q j i oj oi hl hq' hq hj hi).2.2 x hx with a|a
    ·exact a
    ·exact absurd hm a
  ·cases h
end
section
variable {e:Env}{rec:Rec}
theorem Zd6 {a:AOper}{l:List AOper}{t t':AT}{s s':St}(h:AD e rec (a::l) t s=.ok t' s'):∃ t1 s1,AD e rec [a] t s=.ok t1 s1∧AD e rec l t1 s1=.ok t' s':=by
 have wnt:∀ (g:Option (Nat×Bool)),AN g t=0∨AN g t=1∨AN g t=2:=by
  intro g
  cases g with
  | none=>exact .inr (.inr rfl)
  | some q=>
   obtain ⟨j,b⟩:=q
   show (Option.rec 0 (fun v=>BR.rec (Bool.rec 1 0 (Bu v)) (Bool.rec 1 2 b) (Bool.rec 2 1 b) (asBool v)) (t.get j):Nat)=0∨(Option.rec 0 (fun v=>BR.rec (Bool.rec 1 0 (Bu v)) (Bool.rec 1 2 b) (Bool.rec 2 1 b) (asBool v)) (t.get j):Nat)=1∨(Option.rec 0 (fun v=>BR.rec (Bool.rec 1 0 (Bu v)) (Bool.rec 1 2 b) (Bool.rec 2 1 b) (asBool v)) (t.get j):Nat)=2
   cases t.get j with
   | none=>exact .inl rfl
   | some v=>
    show (BR.rec (Bool.rec 1 0 (Bu v)) (Bool.rec 1 2 b) (Bool.rec 2 1 b) (asBool v):Nat)=0∨(BR.rec (Bool.rec 1 0 (Bu v)) (Bool.rec 1 2 b) (Bool.rec 2 1 b) (asBool v):Nat)=1∨(BR.rec (Bool.rec 1 0 (Bu v)) (Bool.rec 1 2 b) (Bool.rec 2 1 b) (asBool v):Nat)=2
    cases asBool v <;> cases b <;> cases Bu v <;> simp
 cases a with
 | mk d p g=>
  change (Nat.rec .fail (fun w _=>Nat.rec (AD e rec l (BF d (.tup []) t) s) (fun _ _=>RV.rec .fail (fun v s'=>AD e rec l (BF d v t) s') (AL p e rec t s)) w) (AN g t):RT)=.ok t' s' at h
  show ∃ t1 s1,(Nat.rec .fail (fun w _=>Nat.rec (RT.ok (BF d (.tup []) t) s) (fun _ _=>RV.rec .fail (fun v s'=>RT.ok (BF d v t) s') (AL p e rec t s)) w) (AN g t):RT)=.ok t1 s1∧_
  rcases wnt g with hw|hw|hw
  ·rw [hw] at h;cases h
  ·rw [hw] at h ⊢;exact ⟨_,_,rfl,h⟩
  ·rw [hw] at h ⊢
   change (RV.rec .fail (fun v s'=>AD e rec l (BF d v t) s') (AL p e rec t s):RT)=.ok t' s' at h
   show ∃ t1 s1,(RV.rec .fail (fun v s'=>RT.ok (BF d v t) s') (AL p e rec t s):RT)=.ok t1 s1∧_
   cases ho:AL p e rec t s with
   | fail=>rw [ho] at h;cases h
   | ok v s1=>rw [ho] at h;exact ⟨_,_,rfl,h⟩
 | chk d p g=>
  change (Nat.rec .fail (fun w _=>Nat.rec (AD e rec l t s) (fun _ _=>RV.rec .fail (fun v _=>Option.rec .fail (fun v0=>Bool.rec .fail (AD e rec l t s) (BU v v0)) (t.get d)) (AL p e rec t s)) w) (AN g t):RT)=.ok t' s' at h
  show ∃ t1 s1,(Nat.rec .fail (fun w _=>Nat.rec (RT.ok t s) (fun _ _=>RV.rec .fail (fun v _=>Option.rec .fail (fun v0=>Bool.rec .fail (RT.ok t s) (BU v v0)) (t.get d)) (AL p e rec t s)) w) (AN g t):RT)=.ok t1 s1∧_
  rcases wnt g with hw|hw|hw
  ·rw [hw] at h;cases h
  ·rw [hw] at h ⊢;exact ⟨_,_,rfl,h⟩
  ·rw [hw] at h ⊢
   change (RV.rec .fail (fun v _=>Option.rec .fail (fun v0=>Bool.rec .fail (AD e rec l t s) (BU v v0)) (t.get d)) (AL p e rec t s):RT)=.ok t' s' at h
   show ∃ t1 s1,(RV.rec .fail (fun v _=>Option.rec .fail (fun v0=>Bool.rec .fail (RT.ok t s) (BU v v0)) (t.get d)) (AL p e rec t s):RT)=.ok t1 s1∧_
   cases ho:AL p e rec t s with
   | fail=>rw [ho] at h;cases h
   | ok v s1=>
    rw [ho] at h
    change (Option.rec .fail (fun v0=>Bool.rec .fail (AD e rec l t s) (BU v v0)) (t.get d):RT)=.ok t' s' at h
    show ∃ t1 s1,(Option.rec .fail (fun v0=>Bool.rec .fail (RT.ok t s) (BU v v0)) (t.get d):RT)=.ok t1 s1∧_
    cases hg:t.get d with
    | none=>rw [hg] at h;cases h
    | some v0=>
     rw [hg] at h
     change (Bool.rec .fail (AD e rec l t s) (BU v v0):RT)=.ok t' s' at h
     show ∃ t1 s1,(Bool.rec .fail (RT.ok t s) (BU v v0):RT)=.ok t1 s1∧_
     cases hq:BU v v0 with
     | false=>rw [hq] at h;cases h
     | true=>rw [hq] at h;exact ⟨_,_,rfl,h⟩
theorem ZG:∀ {al:List AOper}{t t':AT}{s s':St},AD e rec al t s=.ok t' s'→∃ (tq:Nat→AT) (sq:Nat→St),tq 0=t∧sq 0=s∧tq al.length=t'∧sq al.length=s'∧
 ∀ (q:Nat) (a:AOper),al[q]?=some a→AD e rec [a] (tq q) (sq q)=.ok (tq (q+1)) (sq (q+1)):=by
 intro al
 induction al with
 | nil=>intro t t' s s' h;cases h;exact ⟨fun _=>t,fun _=>s,rfl,rfl,rfl,rfl,fun q a h=>by simp at h⟩
 | cons a al ih=>
  intro t t' s s' h
  obtain ⟨t1,s1,h1,h2⟩:=Zd6 h
  obtain ⟨tq,sq,e1,e2,e3,e4,e5⟩:=ih h2
  refine ⟨fun q=>Nat.rec t (fun q _=>tq q) q,fun q=>Nat.rec s (fun q _=>sq q) q,rfl,rfl,e3,e4,fun q b hb=>?_⟩
  cases q with
  | zero=>simp at hb;subst hb;show AD e rec [a] t s=.ok (tq 0) (sq 0);rw [e1,e2];exact h1
  | succ q=>exact e5 q b (by simpa using hb)
end
end Go.AM
namespace Go.AM
structure Ran (P:Program) (e:Env) (rec:Rec) (N:Nat) (ops:Array Oper) (cs:List AOper) (its:List It) (tq:Nat→AT) (sq:Nat→St) (V:Nat→AV):Prop where
 op:∀ (q i:Nat) (o:Oper),its[q]?=some (.op i)→ops[i]?=some o→∃ d p g,cs[i]?=some (AOper.mk d p g)∧E3 N o.dst=some d∧Il P o=some p∧Gl ops N o.guard=some g∧tq (q+1)=BF d (V i) (tq q)∧
  ((AN g (tq q)=1∧V i=.tup []∧sq (q+1)=sq q)∨(AN g (tq q)=2∧AL p e rec (tq q) (sq q)=.ok (V i) (sq (q+1))))
 chk:∀ (q i:Nat),its[q]?=some (.chk i)→tq (q+1)=tq q∧sq (q+1)=sq q∧∃ d p g,cs[i]?=some (AOper.mk (d+1) p g)∧GX p=true∧
  (AN g (tq q)=1∨(AN g (tq q)=2∧∃ v s1,AL p e rec (tq q) (sq q)=.ok v s1∧(tq q).get d=some v))
section
variable {P:Program}{e:Env}{rec:Rec}{N:Nat}{ops:Array Oper}{cs:List AOper}{its:List It}{al:List AOper}{tq:Nat→AT}{sq:Nat→St}{V:Nat→AV}
theorem YQ (g:Option (Nat×Bool)) (t:AT):AN g t=0∨AN g t=1∨AN g t=2:=by
 cases g with
 | none=>exact .inr (.inr rfl)
 | some q=>
  obtain ⟨j,b⟩:=q
  show (Option.rec 0 (fun v=>BR.rec (Bool.rec 1 0 (Bu v)) (Bool.rec 1 2 b) (Bool.rec 2 1 b) (asBool v)) (t.get j):Nat)=0∨(Option.rec 0 (fun v=>BR.rec (Bool.rec 1 0 (Bu v)) (Bool.rec 1 2 b) (Bool.rec 2 1 b) (asBool v)) (t.get j):Nat)=1∨(Option.rec 0 (fun v=>BR.rec (Bool.rec 1 0 (Bu v)) (Bool.rec 1 2 b) (Bool.rec 2 1 b) (asBool v)) (t.get j):Nat)=2
  cases t.get j with
  | none=>exact .inl rfl
  | some v=>
   show (BR.rec (Bool.rec 1 0 (Bu v)) (Bool.rec 1 2 b) (Bool.rec 2 1 b) (asBool v):Nat)=0∨(BR.rec (Bool.rec 1 0 (Bu v)) (Bool.rec 1 2 b) (Bool.rec 2 1 b) (asBool v):Nat)=1∨(BR.rec (Bool.rec 1 0 (Bu v)) (Bool.rec 1 2 b) (Bool.rec 2 1 b) (asBool v):Nat)=2
   cases asBool v <;> cases b <;> cases Bu v <;> simp
variable {d:Nat}{p:AOp}{g:Option (Nat×Bool)}{t t':AT}{s s':St}
theorem Zk7 (h:AD e rec [.mk d p g] t s=.ok t' s'):
 ∃ v,t'=BF d v t∧((AN g t=1∧v=.tup []∧s'=s)∨(AN g t=2∧AL p e rec t s=.ok v s')):=by
 rcases U6 h with ⟨hw,h⟩|⟨hw,v,s1,ho,h⟩
 ·cases h;exact ⟨_,rfl,.inl ⟨hw,rfl,rfl⟩⟩
 ·cases h;exact ⟨v,rfl,.inr ⟨hw,ho⟩⟩
theorem Zg3 (h:AD e rec [.chk d p g] t s=.ok t' s'):
 t'=t∧s'=s∧(AN g t=1∨(AN g t=2∧∃ v s1,AL p e rec t s=.ok v s1∧t.get d=some v)):=by
 change (Nat.rec .fail (fun w _=>Nat.rec (RT.ok t s) (fun _ _=>RV.rec .fail (fun v _=>Option.rec .fail (fun v0=>Bool.rec .fail (RT.ok t s) (BU v v0)) (t.get d)) (AL p e rec t s)) w) (AN g t):RT)=.ok t' s' at h
 rcases YQ g t with hw|hw|hw
 ·rw [hw] at h;cases h
 ·rw [hw] at h;cases h;exact ⟨rfl,rfl,.inl hw⟩
 ·rw [hw] at h
  change (RV.rec .fail (fun v _=>Option.rec .fail (fun v0=>Bool.rec .fail (RT.ok t s) (BU v v0)) (t.get d)) (AL p e rec t s):RT)=.ok t' s' at h
  cases ho:AL p e rec t s with
  | fail=>rw [ho] at h;cases h
  | ok v s1=>
   rw [ho] at h
   change (Option.rec .fail (fun v0=>Bool.rec .fail (RT.ok t s) (BU v v0)) (t.get d):RT)=.ok t' s' at h
   cases hg:t.get d with
   | none=>rw [hg] at h;cases h
   | some v0=>
    rw [hg] at h
    change (Bool.rec .fail (RT.ok t s) (BU v v0):RT)=.ok t' s' at h
    cases hq:BU v v0 with
    | false=>rw [hq] at h;cases h
    | true=>rw [hq] at h;cases h;exact ⟨rfl,rfl,.inr ⟨hw,v,s1,rfl,by rw [Zlz hq]⟩⟩
theorem Zk3 (hp:Plan P N ops cs its al) (h:AD e rec al t s=.ok t' s'):
 ∃ tq sq V,Ran P e rec N ops cs its tq sq V∧tq 0=t∧sq 0=s∧tq its.length=t'∧sq its.length=s':=by
 obtain ⟨tq,sq,e1,e2,e3,e4,e5⟩:=ZG h
 have hst:∀ (q:Nat) (x:It),its[q]?=some x→∃ a,Kk cs x=some a∧AD e rec [a] (tq q) (sq q)=.ok (tq (q+1)) (sq (q+1)):=by
  intro q x hq
  obtain ⟨a,h1,h2⟩:=hp.al_get q x hq
  exact ⟨a,h2,e5 q a h1⟩
 have hV:∀ i,∃ v,∀ (q:Nat) (o:Oper),its[q]?=some (.op i)→ops[i]?=some o→∃ d p g,cs[i]?=some (AOper.mk d p g)∧E3 N o.dst=some d∧Il P o=some p∧Gl ops N o.guard=some g∧tq (q+1)=BF d v (tq q)∧
  ((AN g (tq q)=1∧v=.tup []∧sq (q+1)=sq q)∨(AN g (tq q)=2∧AL p e rec (tq q) (sq q)=.ok v (sq (q+1)))):=by
  intro i
  by_cases hi:i<ops.size
  ·obtain ⟨q,hq⟩:=hp.has i hi
   obtain ⟨o,ho⟩:∃ o,ops[i]?=some o:=⟨ops[i],by simp [hi]⟩
   obtain ⟨d,p,g,c1,c2,c3,c4⟩:=hp.cs_get i o ho
   obtain ⟨a,h1,h2⟩:=hst q _ hq
   have ha:a=.mk d p g:=by simp only [Kk,c1] at h1;exact (Zrh h1).symm
   subst ha
   obtain ⟨v,v1,v2⟩:=Zk7 h2
   refine ⟨v,fun q' o' hq' ho'=>?_⟩
   have hqq:q'=q:=by
    rcases Nat.lt_trichotomy q' q with hlt|heq|hgt
    ·exact absurd rfl (hp.ne q' q i i hlt hq' hq)
    ·exact heq
    ·exact absurd rfl (hp.ne q q' i i hgt hq hq')
   subst hqq
   rw [ho] at ho';cases ho'
   exact ⟨d,p,g,c1,c2,c3,c4,v1,v2⟩
  ·exact ⟨.nilp,fun q o hq ho=>absurd (Zrd.1 ho).1 hi⟩
 obtain ⟨V,hV⟩:=Classical.axiomOfChoice hV
 refine ⟨tq,sq,V,⟨fun q i o hq ho=>hV i q o hq ho,?_⟩,e1,e2,by rw [← hp.al_len];exact e3,by rw [← hp.al_len];exact e4⟩
 intro q i hq
 obtain ⟨a,h1,h2⟩:=hst q _ hq
 simp only [Kk] at h1
 split at h1
 ·rename_i d p g hc
  split at h1
  ·rename_i hl
   cases h1
   obtain ⟨c1,c2,c3⟩:=Zg3 h2
   exact ⟨c1,c2,d,p,g,hc,hl,c3⟩
  ·cases h1
 ·cases h1
theorem NT (hp:Plan P N ops cs its al) (hr:Ran P e rec N ops cs its tq sq V) (x:Nat) (v:AV):∀ q,q≤its.length→(tq q).get x=some v→
 (∃ q' j o,q'<q∧its[q']?=some (.op j)∧ops[j]?=some o∧o.dst=some x∧v=V j)∨((tq 0).get x=some v∧∀ (q' j:Nat) (o:Oper),q'<q→its[q']?=some (.op j)→ops[j]?=some o→o.dst≠some x):=by
 intro q
 induction q with
 | zero=>intro _ h;exact .inr ⟨h,fun q' j o hlt=>by omega⟩
 | succ q ih=>
  intro hq h
  have hlt:q<its.length:=by omega
  obtain ⟨y,hy⟩:∃ y,its[q]?=some y:=⟨its[q],by simp [hlt]⟩
  have lift:(tq q).get x=some v→(∀ (j:Nat) (o:Oper),its[q]?=some (.op j)→ops[j]?=some o→o.dst≠some x)→((∃ q' j o,q'<q+1∧its[q']?=some (.op j)∧ops[j]?=some o∧o.dst=some x∧v=V j)∨((tq 0).get x=some v∧∀ (q' j:Nat) (o:Oper),q'<q+1→its[q']?=some (.op j)→ops[j]?=some o→o.dst≠some x)):=fun h0 hn=>by
   rcases ih (by omega) h0 with ⟨q',j,o,a1,a2⟩|⟨a1,a2⟩
   ·exact Or.inl ⟨q',j,o,Nat.lt_succ_of_lt a1,a2⟩
   ·exact Or.inr ⟨a1,fun q' j o hq' hj ho=>by
     rcases Zr1.1 hq' with h1|h1
     ·exact a2 q' j o h1 hj ho
     ·subst h1;exact hn j o hj ho⟩
  cases y with
  | chk i=>
   rw [(hr.chk q i hy).1] at h
   exact lift h (fun j o hj=>by rw [hy] at hj;cases hj)
  | op i=>
   obtain ⟨o,ho⟩:∃ o,ops[i]?=some o:=⟨ops[i]'(hp.lt q i hy),by simp [hp.lt q i hy]⟩
   obtain ⟨d,p,g,c1,c2,c3,c4,c5,_⟩:=hr.op q i o hy ho
   rw [c5] at h
   cases hd:o.dst with
   | none=>
    rw [hd] at c2;cases c2
    exact lift h (fun j o' hj ho'=>by rw [hy] at hj;cases hj;rw [ho] at ho';cases ho';rw [hd];simp)
   | some z=>
    rw [hd] at c2
    simp only [E3] at c2
    split at c2
    ·cases c2
     rcases FB (show ((tq q).set (V i) z).get x=some v from h) with ⟨rfl,rfl⟩|⟨hne,h⟩
     ·exact .inl ⟨q,i,o,Nat.lt_succ_self _,hy,ho,hd,rfl⟩
     ·exact lift h (fun j o' hj ho'=>by rw [hy] at hj;cases hj;rw [ho] at ho';cases ho';rw [hd];intro e;cases e;exact hne rfl)
    ·cases c2
end
end Go.AM
