/- Contracts of functions over the abstract machine. No conditions. -/
import Derived.RangeFuncLeaves
import Derived.LoopNIn
import Derived.TacticsIn
import Derived.OrdersIn
import Derived.Test.YtblggmblcjoalaaGreatAM2
set_option linter.unusedVariables false
set_option linter.unusedSimpArgs false
set_option maxRecDepth 100000
namespace Go.AM
section
variable {P:Program}{γ:Gam}{s:St}{w:World}{t:AT}{ρ:Operand->Value}
def isCall:AOp->Bool
 | .call ..|.scall ..|.inv ..=>true
 | _=>false
def isMake:AOp->Bool
 | .new ..|.box ..|.bsl ..|.mks ..|.mkmap=>true
 | _=>false
theorem map_some {α β:Type}{f:α->β}{x:Option α}{y:β}(h:x.map f=some y):∃ a,x=some a∧f a=y:=by
 cases x with
 | none=>cases h
 | some a=>exact ⟨a,rfl,Option.some.inj h⟩
def Both (P:Program) (γ:Gam) (s:St) (w:World) (ρ:Operand->Value) (o:Oper) (p:AOp) (v:AV) (s':St):Prop:=
 (isMake p=true∧Fresh P γ w ρ o s v s')∨(isMake p=false∧(Sim P γ s w->OpOk P γ s w ρ o v s'))
variable {ty:Nat}
theorem intKey_some (h:intKey P ty=true):∃ kt e kk,P.underlying ty=some (.map kt e)∧P.underlying kt=some (.int kk):=by
 unfold intKey at h
 split at h
 ·rename_i kt e hu
  split at h
  ·rename_i kk hk;exact ⟨kt,e,kk,hu,hk⟩
  ·cases h
 ·cases h
variable {e:Env}{rec:Rec}{o:Oper}{p:AOp}{v:AV}{s':St}
theorem op_bin {op:BinOp}{yt:Nat}{x y:Operand}(hop:o.op=.binOp op ty x y yt) (he:Evs γ t ρ [x,y]) (hc:compOp0 P o=some p)
 (h:opA p e rec t s=.ok v s'):Both P γ s w ρ o p v s':=by
 simp only [compOp0,hop] at hc
 split at hc
 ·rename_i a b ha hb
  split at hc
  ·split at hc
   ·cases hc;exact .inr ⟨rfl,fun hs=>bin_sound hs ha hb hop he h⟩
   ·cases hc;exact .inr ⟨rfl,fun hs=>bin_sound hs ha hb hop he h⟩
   ·split at hc
    ·rename_i k hk
     cases hc;exact .inr ⟨rfl,fun hs=>eqb_sound hs (.inl ⟨rfl,rfl⟩) hk ha hb hop he h⟩
    ·obtain ⟨ks,hk,rfl⟩:=map_some hc
     exact .inr ⟨rfl,fun hs=>eqf_sound hs (.inl ⟨rfl,rfl⟩) hk ha hb hop he h⟩
  ·split at hc
   ·cases hc;exact .inr ⟨rfl,fun hs=>bin_sound hs ha hb hop he h⟩
   ·cases hc;exact .inr ⟨rfl,fun hs=>bin_sound hs ha hb hop he h⟩
   ·split at hc
    ·rename_i k hk
     cases hc;exact .inr ⟨rfl,fun hs=>eqb_sound hs (.inr ⟨rfl,rfl⟩) hk ha hb hop he h⟩
    ·obtain ⟨ks,hk,rfl⟩:=map_some hc
     exact .inr ⟨rfl,fun hs=>eqf_sound hs (.inr ⟨rfl,rfl⟩) hk ha hb hop he h⟩
  ·cases hc;exact .inr ⟨rfl,fun hs=>bin_sound hs ha hb hop he h⟩
 ·cases hc
theorem op_builtin {b:Builtin}{args:Array Operand}{ts:Array TypeId}(hop:o.op=.call { callee:=.builtin b,args:=args,argTypes:=ts }) (he:Evs γ t ρ args.toList)
 (hc:compBuiltin P b ts.toList args.toList=some p) (h:opA p e rec t s=.ok v s'):Both P γ s w ρ o p v s':=by
 unfold compBuiltin at hc
 split at hc
 ·-- len
  rename_i x T hal htl
  obtain ⟨al⟩:=args;obtain ⟨tl⟩:=ts;simp only at hal htl;subst hal;subst htl
  split at hc
  ·cases hc;rename_i hu;exact .inr ⟨rfl,fun hs=>alen_sound (t:=t) hs hu hop h⟩
  ·obtain ⟨a,ha,rfl⟩:=map_some hc;rename_i hu;exact .inr ⟨rfl,fun hs=>len_sound hs hu ha hop he h⟩
  ·obtain ⟨a,ha,rfl⟩:=map_some hc;rename_i hu;exact .inr ⟨rfl,fun hs=>lenm_sound hs hu ha hop he h⟩
  ·cases hc
 ·obtain ⟨as,ha,rfl⟩:=map_some hc
  exact .inr ⟨rfl,fun hs=>mn_sound (mx:=false) hs ha hop he h⟩
 ·obtain ⟨as,ha,rfl⟩:=map_some hc
  exact .inr ⟨rfl,fun hs=>mn_sound (mx:=true) hs ha hop he h⟩
 ·-- cap
  rename_i x T hal htl
  obtain ⟨al⟩:=args;obtain ⟨tl⟩:=ts;simp only at hal htl;subst hal;subst htl
  split at hc
  ·obtain ⟨a,ha,rfl⟩:=map_some hc;rename_i hu;exact .inr ⟨rfl,fun hs=>cap_sound hs hu ha hop he h⟩
  ·cases hc
 ·-- append
  rename_i x y T U hal htl
  obtain ⟨al⟩:=args;obtain ⟨tl⟩:=ts;simp only at hal htl;subst hal;subst htl
  split at hc
  ·split at hc
   ·rename_i el kn sx xx hu hU hs' hx'
    split at hc
    ·rename_i n b z hn hb hz
     split at hc
     ·rename_i hcnd
      cases hc
      exact .inr ⟨rfl,fun hs=>app0_sound hs hu hU hn hb hz hcnd.1 hcnd.2.1 hcnd.2.2 hs' hx' hop he h⟩
     ·cases hc
    ·cases hc
   ·cases hc
  ·rename_i hTU
   have hTU:T=U:=Classical.not_not.1 hTU
   subst hTU
   split at hc
   ·rename_i el sx xx hu hs' hx'
    split at hc
    ·rename_i n b z hn hb hz
     split at hc
     ·rename_i hcnd
      cases hc
      exact .inr ⟨rfl,fun hs=>app_sound hs hu hn hb hz hcnd.1 hcnd.2.1 hcnd.2.2 hs' hx' hop he h⟩
     ·cases hc
    ·cases hc
   ·cases hc
 ·-- copy
  rename_i x y T U hal htl
  obtain ⟨al⟩:=args;obtain ⟨tl⟩:=ts;simp only at hal htl;subst hal;subst htl
  split at hc
  ·rename_i el d sx hu hd hs'
   obtain ⟨n,hn,rfl⟩:=map_some hc
   exact .inr ⟨rfl,fun hs=>copy_sound hs hu hn hd hs' hop he h⟩
  ·cases hc
 ·-- delete
  rename_i x y T U hal htl
  obtain ⟨al⟩:=args;obtain ⟨tl⟩:=ts;simp only at hal htl;subst hal;subst htl
  split at hc
  ·rename_i kt ev m k hu hm hk
   split at hc
   ·rename_i kk hku
    cases hc
    exact .inr ⟨rfl,fun hs=>mdel_sound hs hu hku hm hk hop he h⟩
   ·cases hc
  ·cases hc
 ·-- clear
  rename_i x T hal htl
  obtain ⟨al⟩:=args;obtain ⟨tl⟩:=ts;simp only at hal htl;subst hal;subst htl
  split at hc
  ·rename_i el a hu ha
   split at hc
   ·rename_i n z hn hz
    split at hc
    ·rename_i hcnd
     cases hc
     exact .inr ⟨rfl,fun hs=>clr_sound hs hu hn hz hcnd.1 hcnd.2 ha hop he h⟩
    ·cases hc
   ·cases hc
  ·cases hc
 ·cases hc
theorem op_sound (he:Evs γ t ρ o.op.operands.toList) (hc:compOp0 P o=some p) (hp:isCall p=false)
 (h:opA p e rec t s=.ok v s'):Both P γ s w ρ o p v s':=by
 have hc0:=hc
 cases hop:o.op with
 | move x=>
  simp only [compOp0,hop] at hc;rw [hop] at he
  obtain ⟨a,ha,rfl⟩:=map_some hc
  exact .inr ⟨rfl,fun hs=>mv_sound hs ha (.inl hop) he h⟩
 | assign x=>
  simp only [compOp0,hop] at hc;rw [hop] at he
  obtain ⟨a,ha,rfl⟩:=map_some hc
  exact .inr ⟨rfl,fun hs=>mv_sound hs ha (.inr hop) he h⟩
 | pick c x y=>
  simp only [compOp0,hop] at hc;rw [hop] at he
  split at hc
  ·rename_i h1 h2 h3;cases hc;exact .inr ⟨rfl,fun hs=>pick_sound hs h1 h2 h3 hop he h⟩
  ·cases hc
 | alloc ty=>
  simp only [compOp0,hop] at hc
  split at hc
  ·rename_i n z hn hz;cases hc;exact .inl ⟨rfl,new_fresh (t:=t) hn hz hop h⟩
  ·cases hc
 | box ty x=>
  simp only [compOp0,hop] at hc;rw [hop] at he
  split at hc
  ·rename_i n a hn ha;cases hc;exact .inl ⟨rfl,box_fresh hn ha hop he h⟩
  ·cases hc
 | build ty parts=>
  simp only [compOp0,hop] at hc;rw [hop] at he
  have he':Evs γ t ρ (parts.toList.map (·.2)):=he
  split at hc
  ·rename_i z fs hz hu
   split at hc
   ·rename_i hall
    obtain ⟨as,ha,rfl⟩:=map_some hc
    refine .inr ⟨rfl,fun hs=>build_sound hs hz (.inl ⟨fs,hu,fun f hf=>?_,ha⟩) hop he' h⟩
    have:=List.all_eq_true.1 hall f hf
    cases hq:szOf P f.type with
    | none=>rw [hq] at this;cases this
    | some n=>exact ⟨n,rfl⟩
   ·cases hc
  ·rename_i z n el hz hu
   split at hc
   ·rename_i m hm
    obtain ⟨as,ha,rfl⟩:=map_some hc
    exact .inr ⟨rfl,fun hs=>build_sound hs hz (.inr ⟨n,el,m,hu,hm,ha⟩) hop he' h⟩
   ·cases hc
  ·cases hc
 | buildSlice ty n parts=>
  simp only [compOp0,hop] at hc;rw [hop] at he
  have he':Evs γ t ρ (parts.toList.map (·.2)):=he
  split at hc
  ·rename_i el hu
   split at hc
   ·rename_i m z hm hz
    split at hc
    ·rename_i hcnd
     obtain ⟨as,ha,rfl⟩:=map_some hc
     exact .inl ⟨rfl,bsl_fresh hu hm hz hcnd.1 hcnd.2.1 hcnd.2.2 ha hop he' h⟩
    ·cases hc
   ·cases hc
  ·cases hc
 | load ty x=>
  simp only [compOp0,hop] at hc;rw [hop] at he
  split at hc
  ·rename_i n a hag hn ha;cases hc;exact .inr ⟨rfl,fun hs=>ldn_sound hs hag hn ha hop he h⟩
  ·rename_i a hag ha;cases hc;exact .inr ⟨rfl,fun hs=>ld1_sound hs hag ha hop he h⟩
  ·cases hc
 | store ty x y=>
  simp only [compOp0,hop] at hc;rw [hop] at he
  split at hc
  ·rename_i n a b hd hn ha hb;cases hc;exact .inr ⟨rfl,fun hs=>st_sound hs hd hn ha hb hop he h⟩
  ·cases hc
 | nilCheck x=>
  simp only [compOp0,hop] at hc;rw [hop] at he
  obtain ⟨a,ha,rfl⟩:=map_some hc
  exact .inr ⟨rfl,fun hs=>nilck_sound hs ha hop he h⟩
 | binOp op ty x y yt=>rw [hop] at he;exact op_bin hop he hc0 h
 | unOp op ty x=>
  simp only [compOp0,hop] at hc;rw [hop] at he
  obtain ⟨a,ha,rfl⟩:=map_some hc
  exact .inr ⟨rfl,fun hs=>un_sound hs ha hop he h⟩
 | convert sr ds x=>
  simp only [compOp0,hop] at hc;rw [hop] at he
  split at hc
  ·rename_i a h1 h2 ha;cases hc;exact .inr ⟨rfl,fun hs=>cvi_sound hs h1 h2 ha hop he wrapQ_eq h⟩
  ·rename_i el a h1 h2 ha
   split at hc
   ·rename_i h8;cases hc;exact .inr ⟨rfl,fun hs=>b2s_sound hs h1 h2 h8 ha hop he h⟩
   ·cases hc
  ·cases hc
 | makeFunc f as bs=>
  cases f with
  | func f=>
   simp only [compOp0,hop] at hc;rw [hop] at he
   split at hc
   ·rename_i h1 h2;cases hc
    exact .inr ⟨rfl,fun hs=>mkfn_sound hs h1 h2 hop (by simpa [Op.operands] using he) h⟩
   ·cases hc
  | _=>simp only [compOp0,hop] at hc;cases hc
 | makeMap ty r=>
  cases r with
  | none=>simp only [compOp0,hop] at hc;cases hc;exact .inl ⟨rfl,mkmap_fresh (t:=t) hop h⟩
  | some r=>simp only [compOp0,hop] at hc;cases hc
 | makeSlice ty l c=>
  simp only [compOp0,hop] at hc;rw [hop] at he
  split at hc
  ·rename_i el a b hu h1 h2
   split at hc
   ·rename_i n by_ z hn hb hz
    split at hc
    ·rename_i hcnd;cases hc
     exact .inl ⟨rfl,mks_fresh hu hn hb hz hcnd.1 hcnd.2.1 hcnd.2.2 h1 h2 hop he h⟩
    ·cases hc
   ·cases hc
  ·cases hc
 | slice ty x lo hi mx=>
  simp only [compOp0,hop] at hc;rw [hop] at he
  have he':Evs γ t ρ ([x]++lo.toList++hi.toList++mx.toList):=by simpa [Op.operands] using he
  split at hc
  ·rename_i el a alo ahi amx hu ha h1 h2 h3
   split at hc
   ·cases hc
   ·rename_i hcnd
    obtain ⟨n,hn,rfl⟩:=map_some hc
    refine .inr ⟨rfl,fun hs=>slc_sound hs hu hn ha h1 h2 h3 ?_ hop he' h⟩
    intro hm
    rw [hm] at hcnd
    cases ahi with
    | none=>exact absurd rfl hcnd
    | some q=>rfl
  ·rename_i n el a alo ahi amx hu ha h1 h2 h3
   split at hc
   ·cases hc
   ·rename_i hcnd
    obtain ⟨m,hm,rfl⟩:=map_some hc
    refine .inr ⟨rfl,fun hs=>sla_sound hs hu hm ha h1 h2 h3 ?_ hop he' h⟩
    intro hmx
    cases mx with
    | none=>cases hmx
    | some mo=>
     obtain ⟨am,_,ham⟩:=map_some (show (aop mo).map some=some amx from h3)
     subst ham
     cases hi with
     | none=>cases h2;simp at hcnd
     | some ho=>rfl
  ·cases hc
 | fieldAddr ty x f=>
  simp only [compOp0,hop] at hc;rw [hop] at he
  split at hc
  ·rename_i fs a hu ha
   split at hc
   ·rename_i fd hf
    split at hc
    ·rename_i n hn;cases hc;exact .inr ⟨rfl,fun hs=>fa_sound hs hu hf hn ha hop he h⟩
    ·cases hc
   ·cases hc
  ·cases hc
 | field ty x f=>
  simp only [compOp0,hop] at hc;rw [hop] at he
  split at hc
  ·rename_i fs a hu ha
   split at hc
   ·rename_i fd hf
    split at hc
    ·rename_i n hag hn;cases hc;exact .inr ⟨rfl,fun hs=>fldn_sound hs hu hf hag hn ha hop he h⟩
    ·rename_i hag;cases hc;exact .inr ⟨rfl,fun hs=>fld1_sound hs hu hf hag ha hop he h⟩
    ·cases hc
   ·cases hc
  ·cases hc
 | indexAddr ty x i=>
  simp only [compOp0,hop] at hc;rw [hop] at he
  split at hc
  ·rename_i el a b hu ha hb
   obtain ⟨n,hn,rfl⟩:=map_some hc
   exact .inr ⟨rfl,fun hs=>ixs_sound hs hu hn ha hb hop he h⟩
  ·rename_i m el a b hu ha hb
   obtain ⟨n,hn,rfl⟩:=map_some hc
   exact .inr ⟨rfl,fun hs=>ixa_sound hs hu hn ha hb hop he h⟩
  ·cases hc
 | index ty x i=>
  simp only [compOp0,hop] at hc;rw [hop] at he
  split at hc
  ·rename_i m el a b hu ha hb
   split at hc
   ·rename_i hn hag;cases hc;exact .inr ⟨rfl,fun hs=>ixv_sound hs hu hn hag ha hb hop he h⟩
   ·rename_i hn hag;cases hc;exact .inr ⟨rfl,fun hs=>ixvn_sound hs hu hn hag ha hb hop he h⟩
   ·cases hc
  ·cases hc
 | extract x i=>
  simp only [compOp0,hop] at hc;rw [hop] at he
  obtain ⟨a,ha,rfl⟩:=map_some hc
  exact .inr ⟨rfl,fun hs=>ext_sound hs ha hop he h⟩
 | lookup ty m k ok=>
  simp only [compOp0,hop] at hc;rw [hop] at he
  split at hc
  ·rename_i kt' el a b hu ha hb
   split at hc
   ·rename_i hik
    obtain ⟨kt,e2,kk,hu2,hku⟩:=intKey_some hik
    rw [hu2] at hu;cases hu
    split at hc
    ·rename_i i hi
     split at hc
     ·rename_i z hz
      obtain ⟨zz,hzz,rfl⟩:=map_some hc
      exact .inr ⟨rfl,fun hs=>mget_sound hs hu2 hku hi hz hzz ha hb hop he h⟩
     ·cases hc
    ·cases hc
   ·cases hc
  ·cases hc
 | mapUpdate ty m k v'=>
  simp only [compOp0,hop] at hc;rw [hop] at he
  split at hc
  ·rename_i a b c hd ha hb hcc
   split at hc
   ·rename_i hik
    obtain ⟨kt,e2,kk,hu2,hku⟩:=intKey_some hik
    cases hc
    exact .inr ⟨rfl,fun hs=>mset_sound hs hd hu2 hku ha hb hcc (.inl hop) he h⟩
   ·split at hc
    ·rename_i hpk
     cases hc
     exact .inr ⟨rfl,fun hs=>msetp_sound hs hd hpk ha hb hcc (.inl hop) he h⟩
    ·cases hc
  ·cases hc
 | insert ty m k v'=>
  simp only [compOp0,hop] at hc;rw [hop] at he
  split at hc
  ·rename_i a b c hd ha hb hcc
   split at hc
   ·rename_i hik
    obtain ⟨kt,e2,kk,hu2,hku⟩:=intKey_some hik
    cases hc
    exact .inr ⟨rfl,fun hs=>mset_sound hs hd hu2 hku ha hb hcc (.inr hop) he h⟩
   ·split at hc
    ·rename_i hpk
     cases hc
     exact .inr ⟨rfl,fun hs=>msetp_sound hs hd hpk ha hb hcc (.inr hop) he h⟩
    ·cases hc
  ·cases hc
 | range ty x=>
  simp only [compOp0,hop] at hc;rw [hop] at he
  split at hc
  ·rename_i hT
   obtain ⟨a,ha,rfl⟩:=map_some hc
   exact .inr ⟨rfl,fun hs=>rngm_sound hs hT ha hop he h⟩
  ·cases hc
 | entry x=>
  simp only [compOp0,hop] at hc;rw [hop] at he
  obtain ⟨a,ha,rfl⟩:=map_some hc
  exact .inr ⟨rfl,fun hs=>entm_sound hs ha hop he h⟩
 | next x str=>
  cases str with
  | true=>simp only [compOp0,hop] at hc;cases hc
  | false=>
   simp only [compOp0,hop] at hc
   obtain ⟨a,ha,rfl⟩:=map_some hc
   cases h
 | call c=>
  obtain ⟨cal,args,ts⟩:=c
  cases cal with
  | value f=>
   exfalso
   simp only [compOp0,hop] at hc
   split at hc
   ·obtain ⟨as,_,rfl⟩:=map_some hc;cases hp
   ·split at hc
    ·cases hc;cases hp
    ·cases hc
   ·rename_i hq;cases hq
   ·rename_i hq;cases hq
  | builtin b=>
   simp only [compOp0,hop] at hc;rw [hop] at he
   exact op_builtin hop (by simpa [Op.operands,Call.operands] using he) hc h
  | invoke r m=>
   exfalso
   simp only [compOp0,hop] at hc
   split at hc
   ·cases hc;cases hp
   ·cases hc
 | makeInterface ty x=>
  simp only [compOp0,hop] at hc;rw [hop] at he
  split at hc
  ·rename_i hT
   obtain ⟨a,ha,rfl⟩:=map_some hc
   exact .inr ⟨rfl,fun hs=>mki_sound hs hT ha hop he h⟩
  ·cases hc
 | typeAssert x xt ty ok=>
  cases ok with
  | false=>simp only [compOp0,hop] at hc;cases hc
  | true=>
   simp only [compOp0,hop] at hc;rw [hop] at he
   split at hc
   ·rename_i hT
    split at hc
    ·rename_i i hi
     split at hc
     ·rename_i z hz
      split at hc
      ·rename_i a zv ha hzv
       cases hc
       exact .inr ⟨rfl,fun hs=>tas_sound hs hT hi hz hzv ha hop he h⟩
      ·cases hc
     ·cases hc
    ·cases hc
   ·cases hc
 | _=>simp only [compOp0,hop] at hc;cases hc
theorem compOp_cases (h:compOp P o=some p):compOp0 P o=some p∨p=.bad:=by
 unfold compOp at h
 cases hc:compOp0 P o with
 | none=>rw [hc] at h;cases h;exact .inr rfl
 | some q=>rw [hc] at h;cases h;exact .inl rfl
end
end Go.AM
namespace Go.AM
def fen:Option Nat->Fence
 | none=>Fence.wide
 | some b=>Fence.wide.inRound b
theorem fen_round (b:Option Nat):(fen b).round=b:=by cases b <;> rfl
theorem fen_fn (b:Option Nat) (f:FuncId):(fen b).fn f:=by cases b <;> trivial
theorem fen_depth (b:Option Nat) (n:Nat):(fen b).depth.isSome=true->1≤n:=by cases b <;> (intro h;cases h)
def exOf:Ex->Exit
 | .normal=>.normal
 | .exit id=>.exit id
 | .ret=>.ret
def DR (γ:Gam) (ds:List Nat) (l:List Deferred):Prop:=All2 (fun d D=>∃ L,γ d=some L∧D={ target:=.collected L.b,args:=#[] }) ds l
variable {γ γ':Gam}
theorem DR.mono (h:Le γ γ') {ds:List Nat}{l:List Deferred}(hd:DR γ ds l):DR γ' ds l:=hd.imp fun _ _ ⟨L,a,b⟩=>⟨L,h.loc _ _ a,b⟩
def RD (γ:Gam) (rd b:Option Nat):Prop:=match rd with
 | none=>b=none
 | some l=>∃ L,γ l=some L∧b=some L.b
theorem RD.mono (h:Le γ γ') {rd b:Option Nat}(hd:RD γ rd b):RD γ' rd b:=by
 cases rd with
 | none=>exact hd
 | some l=>obtain ⟨L,a,e⟩:=hd;exact ⟨L,h.loc _ _ a,e⟩
def Post (P:Program) (γ0:Gam) (s0:St) (w0:World) (N:Nat) (x:Ex) (t':AT) (s':St) (ds':List Nat):Exit->Act->World->Prop:=
 fun e a' w'=>e=exOf x∧N≤a'.tmps.size∧∃ γ',Stp γ0 s0 w0 γ' s' w'∧Sim P γ' s' w'∧TR γ' t' a'.tmps∧DR γ' ds' a'.defers
def CallPost (P:Program) (γ:Gam) (s:St) (w:World) (v:AV) (s':St):Ending->World->Prop:=
 fun e w'=>∃ v' γ',e=.returned v'∧Stp γ s w γ' s' w'∧Sim P γ' s' w'∧VR γ' v v'
def Good (P:Program) (n:Nat) (rec:Rec):Prop:=
 ∀ (N:Nat) (c:Code) (ac:AC) (γ:Gam) (t:AT) (s:St) (w:World) (a:Act) (rd b:Option Nat) (ds:List Nat) (x:Ex) (t':AT) (s':St) (ds':List Nat) (γ0:Gam) (s0:St) (w0:World) (m:Nat),
  comp P N c=some ac->N≤a.tmps.size->TR γ t a.tmps->Sim P γ s w->RD γ0 rd b->DR γ ds a.defers->Stp γ0 s0 w0 γ s w->rec ac t s rd ds=.ok x t' s' ds'->
  c.wpIn (fen b) m P (Post P γ0 s0 w0 N x t' s' ds') a w∧∀ c',c=.loop c'->Code.roundsIn (fen b) m P c' (Post P γ0 s0 w0 N x t' s' ds') n a w
structure EnvOk (P:Program) (e:Env):Prop where
 G : ∀ f af, e.G.get f = some af -> ∃ fn, P.funcs[f]? = some fn ∧ compF P fn = some af ∧ (fn.name == "runtime.NumGoroutine") = false
 O : ∀ f h, e.O.get f = some h -> (∃ fn c, P.funcs[f]? = some fn ∧ fn.body = some c ∧ (fn.name == "runtime.NumGoroutine") = false) ∧
  ∀ γ args vals s w v s',All2 (VR γ) args vals->Sim P γ s w->h args s=.ok v s'->∀ m,CallsIn Fence.wide m P f vals.toArray w (CallPost P γ s w v s')
 X:∀ f h,e.X.get f=some h->∀ γ args vals s w v s',All2 (VR γ) args vals->Sim P γ s w->h args s=.ok v s'->
  ∃ v' γ' w',(callFunc f vals.toArray).run P w=.ok (.value v') w'∧Stp γ s w γ' s' w'∧Sim P γ' s' w'∧VR γ' v v'
section
variable {P:Program}{γ:Gam}{s:St}{w:World}{t:AT}
variable {tm:Array Value}{i:Nat}{v:AV}{v':Value}
theorem TR.set (h:TR γ t tm) (hi:i<tm.size) (hv:VR γ v v'):TR γ (t.set v i) (tm.setIfInBounds i v'):=by
 intro j u hu
 rw [Array.getElem?_setIfInBounds]
 rcases T.get_set hu with ⟨rfl,rfl⟩|⟨hne,hu⟩
 ·rw [if_pos rfl,if_pos hi];exact ⟨v',rfl,hv⟩
 ·rw [if_neg (fun e=>hne e.symm)];exact h j u hu
variable {a:Act}{N n:Nat}
theorem TR.put (h:TR γ t a.tmps) {d:Option Tmp}(hN:N≤a.tmps.size) (hd:compDst N d=some n) (hv:VR γ v v'∨d=none):TR γ (putT n v t) (a.put d v').tmps:=by
 cases d with
 | none=>cases hd;exact h
 | some d=>
  simp only [compDst] at hd
  split at hd
  ·rename_i hlt;cases hd
   exact h.set (Nat.lt_of_lt_of_le hlt hN) (hv.resolve_right (by simp))
  ·cases hd
theorem put_size (a:Act) (d:Option Tmp) (v:Value):(a.put d v).tmps.size=a.tmps.size:=by cases d <;> simp [Act.put]
theorem put_defers (a:Act) (d:Option Tmp) (v:Value):(a.put d v).defers=a.defers:=by cases d <;> rfl
theorem undef_VR:VR γ (.tup []) undef:=.tup _ _ .nil
theorem Evs.of_TR (h:TR γ t a.tmps) (xs:List Operand):Evs γ t a.eval xs:=by
 intro x _ y v hy hv
 unfold aop at hy
 split at hy
 ·rename_i i _
  cases hy
  change (Option.rec .none (fun v=>.some v) (t.get i):OV)=.some v at hv
  cases hg:t.get i with
  | none=>rw [hg] at hv;cases hv
  | some u=>
   rw [hg] at hv;cases hv
   obtain ⟨v',h1,h2⟩:=h i v hg
   show VR γ v (a.tmps.getD i undef)
   rw [Array.getD_eq_getD_getElem?,h1];exact h2
 ·obtain ⟨u,hu,rfl⟩:=map_some hy
  cases hv;exact av_VR hu
 ·cases hy;cases hv;exact .fn _ _ _ _ _ .nil .nil
 ·cases hy
theorem ev_VR (h:TR γ t a.tmps) {x:Operand}{y:AO}(hx:aop x=some y) (hv:ev y t=.some v):VR γ v (a.eval x):=
 Evs.of_TR h [x] x (by simp) y v hx hv
theorem wanted_sound (h:TR γ t a.tmps) {ops:Array Oper}{o:Oper}{g:Option (Nat×Bool)}(hg:compGuard ops N o.guard=some g):
 (wantedA g t=2->Region.wanted o (yielded ops a.tmps)=true)∧(wantedA g t=1->Region.wanted o (yielded ops a.tmps)=false):=by
 unfold compGuard at hg
 unfold Region.wanted
 split at hg
 ·rename_i hgo;cases hg;rw [hgo];exact ⟨fun _=>rfl,fun h=>(by cases h)⟩
 ·rename_i j b hgo
  rw [hgo]
  split at hg
  ·rename_i d hd;cases hg
   show ((Option.rec 0 (fun v=>BR.rec (Bool.rec 1 0 (isAny v)) (Bool.rec 1 2 b) (Bool.rec 2 1 b) (asBool v)) (t.get d):Nat)=2->(yielded ops a.tmps j == some b)=true)∧((Option.rec 0 (fun v=>BR.rec (Bool.rec 1 0 (isAny v)) (Bool.rec 1 2 b) (Bool.rec 2 1 b) (asBool v)) (t.get d):Nat)=1->(yielded ops a.tmps j == some b)=false)
   cases hgt:t.get d with
   | none=>exact ⟨fun h=>(by cases h),fun h=>(by cases h)⟩
   | some v=>
    obtain ⟨v',h1,h2⟩:=h d v hgt
    simp only [yielded,hd,Option.bind_some,h1]
    cases h2 <;> first|(cases b <;> rename_i q <;> cases q <;> simp [asBool,isAny])|(cases b <;> simp [asBool,isAny])
  ·cases hg
variable {ty r o:Nat}{p:Value}
theorem loadVar_one (hs:Sim P γ s w) (hag:aggT P ty=some false) (hp:VR γ (.ptr r o) p) (h:load1 r o s=some v):
 ∃ v',(do loadVar ty (← asAddr p):Sem Value).run P w=.ok v' w∧VR γ v v':=by
 obtain ⟨L,hL,rfl⟩:=ptrV hp
 obtain ⟨v',hc,hR,_⟩:=load1_sound hs h hL
 refine ⟨v',?_,hR⟩
 simp only [asAddr,Sem.run_bind,Sem.run_pure,Result.andThen_ok,loadVar,run_isAgg hag]
 simp [run_load,hc]
theorem loadVar_many (hs:Sim P γ s w) {cs:List AV}(hag:aggT P ty=some true) (hn:szOf P ty=some n) (hp:VR γ (.ptr r o) p) (h:load r o n s=some cs):
 ∃ v',(do loadVar ty (← asAddr p):Sem Value).run P w=.ok v' w∧VR γ (.agg cs) v':=by
 obtain ⟨L,hL,rfl⟩:=ptrV hp
 obtain ⟨vs,e1,hc,hR,h1⟩:=load_sound hs h hL
 have hrun:=run_loadCells_list (P:=P) w _ vs hc
 rw [e1] at hrun
 refine ⟨.agg vs.toArray,?_,.agg _ _ hR h1⟩
 simp only [asAddr,Sem.run_bind,Sem.run_pure,Result.andThen_ok,loadVar,run_isAgg hag,run_sizeOf hn,hrun,if_true]
def getRes (tm:Array Value):ResultVar->Sem Value
 | .tmp t=>pure (tm.getD t undef)
 | .cell a t=>do loadVar t (← asAddr (tm.getD a undef))
theorem getD_VR (h:TR γ t tm) (hg:t.get i=some v):VR γ v (tm.getD i undef):=by
 obtain ⟨v',h1,h2⟩:=h i v hg
 rw [Array.getD_eq_getD_getElem?,h1];exact h2
theorem res1_sound (hs:Sim P γ s w) (h:TR γ t tm) {r:ResultVar}{x:ARes}
 (hx:(match r with
   | .tmp t=>some (.tmp t)
   | .cell a t=>match aggT P t,szOf P t with
    | some true,some n=>some (.cells a n)
    | some false,_=>some (.cell a)
    | _,_=>none:Option ARes)=some x) (hr:res1 t s x=some v):∃ v',(getRes tm r).run P w=.ok v' w∧VR γ v v':=by
 cases r with
 | tmp i=>cases hx;exact ⟨_,rfl,getD_VR h hr⟩
 | cell i ty=>
  simp only at hx
  split at hx
  ·rename_i n hag hn
   cases hx
   change (Option.rec none (fun v=>PR.rec none (fun r o=>Option.rec none (fun cs=>some (.agg cs)) (load r o n s)) (fun _=>none) (asPtr v)) (t.get i):Option AV)=some v at hr
   cases hg:t.get i with
   | none=>rw [hg] at hr;cases hr
   | some pv=>
    rw [hg] at hr
    change (PR.rec none (fun r o=>Option.rec none (fun cs=>some (.agg cs)) (load r o n s)) (fun _=>none) (asPtr pv):Option AV)=some v at hr
    cases hp:asPtr pv with
    | no=>rw [hp] at hr;cases hr
    | fp l=>rw [hp] at hr;cases hr
    | ptr q o=>
     rw [hp] at hr
     have hpv:=asPtr_eq hp;subst hpv
     change (Option.rec none (fun cs=>some (.agg cs)) (load q o n s):Option AV)=some v at hr
     cases hl:load q o n s with
     | none=>rw [hl] at hr;cases hr
     | some cs=>rw [hl] at hr;cases hr;exact loadVar_many hs hag hn (getD_VR h hg) hl
  ·rename_i hag
   cases hx
   change (Option.rec none (fun v=>PR.rec none (fun r o=>load1 r o s) (fun _=>none) (asPtr v)) (t.get i):Option AV)=some v at hr
   cases hg:t.get i with
   | none=>rw [hg] at hr;cases hr
   | some pv=>
    rw [hg] at hr
    change (PR.rec none (fun r o=>load1 r o s) (fun _=>none) (asPtr pv):Option AV)=some v at hr
    cases hp:asPtr pv with
    | no=>rw [hp] at hr;cases hr
    | fp l=>rw [hp] at hr;cases hr
    | ptr q o=>
     rw [hp] at hr
     have hpv:=asPtr_eq hp;subst hpv
     exact loadVar_one hs hag (getD_VR h hg) hr
  ·cases hx
theorem compRes_sound (hs:Sim P γ s w) (h:TR γ t tm):∀ (rs:List ResultVar) (res:List ARes) (l:List AV),compRes P rs=some res->resA t s res=some l->
 ∃ vs,(rs.mapM (getRes tm)).run P w=.ok vs w∧All2 (VR γ) l vs:=by
 intro rs
 induction rs with
 | nil=>intro res l h1 h2;cases h1;cases h2;exact ⟨[],rfl,.nil⟩
 | cons r rs ih=>
  intro res l h1 h2
  unfold compRes at h1
  split at h1
  ·rename_i x y hx hy
   cases h1
   change (Option.rec none (fun v=>Option.rec none (fun vs=>some (v::vs)) (resA t s y)) (res1 t s x):Option (List AV))=some l at h2
   cases hr:res1 t s x with
   | none=>rw [hr] at h2;cases h2
   | some v=>
    rw [hr] at h2
    cases hq:resA t s y with
    | none=>rw [hq] at h2;cases h2
    | some vs=>
     rw [hq] at h2;cases h2
     obtain ⟨us,e1,e2⟩:=ih y vs hy hq
     obtain ⟨v',f1,f2⟩:=res1_sound hs h hx hr
     refine ⟨v'::us,?_,.cons f2 e2⟩
     rw [List.mapM_cons]
     simp only [Sem.run_bind,Sem.run_pure,f1,Result.andThen_ok,e1]
  ·cases h1
theorem results_sound (hs:Sim P γ s w) (h:TR γ t tm) {fn:Func}{res:List ARes}{l:List AV}(hc:compRes P fn.results.toList=some res) (hr:resA t s res=some l):
 ∃ v',(results fn tm).run P w=.ok v' w∧VR γ (one l) v':=by
 obtain ⟨vs,h1,h2⟩:=compRes_sound hs h _ _ _ hc hr
 have hm:(fn.results.mapM (getRes tm)).run P w=.ok vs.toArray w:=by
  rw [Array.mapM_eq_mapM_toList]
  simp only [map_eq_pure_bind,Sem.run_bind,h1,Result.andThen_ok,Sem.run_pure]
 have hres:results fn tm=(fn.results.mapM (getRes tm) >>= fun vs=>pure (if h:vs.size=1 then vs[0] else .tuple vs)):=rfl
 rw [hres]
 simp only [Sem.run_bind,hm,Result.andThen_ok,Sem.run_pure]
 refine ⟨_,rfl,?_⟩
 cases h2 with
 | nil=>simp;exact .tup _ _ .nil
 | @cons x u l' us' hx hl=>
  cases hl with
  | nil=>simp;exact hx
  | @cons x2 u2 l2 us2 hx2 hl2=>simp;exact .tup _ _ (.cons hx (.cons hx2 hl2))
end
end Go.AM
namespace Go.AM
section
variable {P:Program}{γ:Gam}{s:St}{w:World}{t:AT}{e:Env}{rec:Rec}{n:Nat}
variable {v:AV}{s':St}
theorem R_ok {k:Ex->AT->St->List Nat->RV}{r:R}(h:(R.rec .fail k r:RV)=.ok v s'):∃ x t1 s1 ds,r=.ok x t1 s1 ds∧k x t1 s1 ds=.ok v s':=by
 cases r with
 | fail=>cases h
 | ok x t1 s1 ds=>exact ⟨x,t1,s1,ds,rfl,h⟩
variable {l:Nat}
theorem lp_ok {k:LoopState->Option Nat->Nat->AT->List Nat->AC->AC->Nat->RV}(h:(LP.rec .fail k (loopAt l s):RV)=.ok v s'):
 ∃ st pend fn tm ps asg body d,s.get l=some (.loop st pend fn tm ps asg body d)∧k st pend fn tm ps asg body d=.ok v s':=by
 unfold loopAt at h
 cases hg:s.get l with
 | none=>rw [hg] at h;cases h
 | some o=>
  rw [hg] at h
  cases o with
  | loop st pend fn tm ps asg body d=>exact ⟨st,pend,fn,tm,ps,asg,body,d,rfl,h⟩
  | _=>cases h
variable {b:Nat}
theorem run_takeDeferred (h:w.heap[b]?=some (.deferred (some []))):(Instr.takeDeferred b).run P w=.ok [] { w with heap:=w.heap.setIfInBounds b (.deferred none) }:=by
 have h1:(getObj b).run P w=.ok (.deferred (some [])) w:=by simp only [getObj,Sem.run];rw [h]
 have h2:∀ o,(setObj b o).run P w=.ok () { w with heap:=w.heap.setIfInBounds b o }:=fun o=>by simp only [setObj,Sem.run];rw [h]
 simp only [Instr.takeDeferred,Sem.run_bind,h1,h2,Result.andThen_ok,Sem.run_pure]
theorem leaves_sound {fn:Func}{tm:Array Value}{res:List ARes}{l:List AV}{γ0:Gam}{s0:St}{w0:World}(hc:compRes P fn.results.toList=some res) {s2:St}{R:Ending->World->Prop}(hR:∀ e w',CallPost P γ0 s0 w0 (one l) s2 e w'->R e w') (m:Nat):∀ (ds:List Nat) (D:List Deferred) (s:St) (w:World),
 DR γ ds D->quit ds s=some s2->Sim P γ s w->Stp γ0 s0 w0 γ s w->TR γ t tm->resA t s2 res=some l->
 LeavesInM Fence.wide m P fn tm R D .returning w:=by
 intro ds
 induction ds with
 | nil=>
  intro D s w hD hq hs hst ht hr
  cases hD
  cases hq
  obtain ⟨v',h1,h2⟩:=results_sound hs ht hc hr
  exact ⟨v',h1,hR _ _ ⟨v',γ,rfl,hst,hs,h2⟩⟩
 | cons d ds ih=>
  intro D s w hD hq hs hst ht hr
  cases hD with
  | cons hd hD=>
   obtain ⟨L,hL,rfl⟩:=hd
   change (Option.rec none (fun o=>AObj.rec (fun _ _=>none) none (fun _ _=>none) (fun _ _ _ _ _ _ _ _=>none) (quit ds (s.put d .dead)) (fun _ _ _ _=>none) o) (s.get d):Option St)=some s2 at hq
   cases hg:s.get d with
   | none=>rw [hg] at hq;cases hq
   | some o=>
    rw [hg] at hq
    cases o with
    | defd=>
     have hb:w.heap[L.b]?=some (.deferred (some [])):=hs.obj d _ L hg hL
     obtain ⟨hst1,hs1⟩:=hs.turn (w':={ w with heap:=w.heap.setIfInBounds L.b (.deferred none) }) (o:=.dead) hg hL rfl
      (fun b hb=>by show (w.heap.setIfInBounds L.b _)[b]?=_;rw [Array.getElem?_setIfInBounds,if_neg (fun e=>hb e.symm)]) (by simp) rfl rfl rfl trivial
     refine ⟨by simp,.inl ⟨L.b,_,rfl,run_takeDeferred hb,ih _ _ _ hD hq hs1 (hst.trans hst1) ht hr⟩⟩
    | _=>cases hq
theorem initT_TR:∀ (args:List AV) (vals:List Value) (tm:Array Value) (i:Nat) (t:AT),All2 (VR γ) args vals->TR γ t tm->(∀ j v,vals[j]?=some v->tm[i+j]?=some v)->TR γ (initT args i t) tm:=by
 intro args
 induction args with
 | nil=>intro vals tm i t h ht _;exact ht
 | cons x args ih=>
  intro vals tm i t h ht hv
  cases h with
  | @cons _ u _ us hx hr=>
   refine ih us tm (i+1) (t.set x i) hr ?_ (fun j v hj=>?_)
   ·intro k y hy
    rcases T.get_set hy with ⟨rfl,rfl⟩|⟨_,hy⟩
    ·exact ⟨u,by simpa using hv 0 u (by simp),hx⟩
    ·exact ht k y hy
   ·have:=hv (j+1) v (by simpa using hj)
    rw [Nat.add_assoc,Nat.add_comm 1 j];exact this
theorem TR_lf (tm:Array Value):TR γ .lf tm:=by intro i v h;cases h
variable {f:Nat}{args:List AV}{vals:List Value}
theorem callG_sound (hG:Good P n rec) (hE:EnvOk P e) (hA:All2 (VR γ) args vals) (hs:Sim P γ s w) (h:callG e rec f args s=.ok v s'):
 (∃ fn c, P.funcs[f]? = some fn ∧ fn.body = some c ∧ (fn.name == "runtime.NumGoroutine") = false) ∧ ∀ m, CallsIn Fence.wide m P f vals.toArray w (CallPost P γ s w v s') := by
 unfold callG at h
 obtain ⟨af,hg,h⟩:=opt_ok h
 obtain ⟨fn,hf,hcF,hname⟩:=hE.G f af hg
 unfold compF at hcF
 split at hcF
 ·rename_i b hb
  split at hcF
  ·rename_i cd rs hcd hrs
   cases hcF
   refine ⟨⟨fn,b,hf,hb,hname⟩,fun m=>?_⟩
   change callEnd rs (rec cd (initT args 0 .lf) s none [])=.ok v s' at h
   unfold callEnd at h
   obtain ⟨x,t1,s1,ds,hrec,h⟩:=R_ok h
   refine callsIn_of_wp_marks hf hb trivial ?_
   have hTR:TR γ (initT args 0 .lf) (vals.toArray++Array.replicate (fn.ntmps-vals.toArray.size) undef):=by
    refine initT_TR args vals _ 0 .lf hA (TR_lf _) ?_
    intro j u hj
    rw [Nat.zero_add,Array.getElem?_append]
    have hlt:=(List.getElem?_eq_some_iff.1 hj).1
    rw [if_pos (by simpa using hlt)]
    simpa using hj
   have hsz:fn.ntmps≤(vals.toArray++Array.replicate (fn.ntmps-vals.toArray.size) undef).size:=by simp;omega
   have hw:=(hG fn.ntmps b cd γ _ s w { tmps:=vals.toArray++Array.replicate (fn.ntmps-vals.toArray.size) undef,defers:=[] } none none [] x t1 s1 ds γ s w m hcd hsz hTR hs rfl .nil (.refl _ _ _) hrec).1
   refine wpIn_mono hw ?_
   rintro ex a' w' ⟨rfl,_,γ',hst,hsim,ht,hd⟩
   have fin:∀ {k:RV},(Option.rec .fail (fun s=>Option.rec .fail (fun l=>.ok (one l) s) (resA t1 s rs)) (quit ds s1):RV)=.ok v s'->LeavesInM Fence.wide m P fn a'.tmps (CallPost P γ s w v s') a'.defers .returning w':=by
    intro _ h
    obtain ⟨s2,hq,h⟩:=opt_ok h
    obtain ⟨l,hl,h⟩:=opt_ok h
    obtain ⟨rfl,rfl⟩:=ok_inj h
    exact leaves_sound hrs (fun _ _ h=>h) m ds a'.defers s1 w' hd hq hsim hst ht hl
   cases x with
   | normal=>exact fin (k:=.fail) h
   | ret=>exact fin (k:=.fail) h
   | exit id=>cases h
  ·cases hcF
 ·cases hcF
theorem callA_sound (hG:Good P n rec) (hE:EnvOk P e) (hA:All2 (VR γ) args vals) (hs:Sim P γ s w) (h:callA e rec f args s=.ok v s'):
 (∃ fn c, P.funcs[f]? = some fn ∧ fn.body = some c ∧ (fn.name == "runtime.NumGoroutine") = false) ∧ ∀ m, CallsIn Fence.wide m P f vals.toArray w (CallPost P γ s w v s') := by
 unfold callA at h
 cases ho:e.O.get f with
 | some hh=>
  rw [ho] at h
  obtain ⟨h1,h2⟩:=hE.O f hh ho
  change (RV.rec (callG e rec f args s) (fun v s'=>.ok v s') (hh args s):RV)=.ok v s' at h
  cases hq:hh args s with
  | fail=>rw [hq] at h;exact callG_sound hG hE hA hs h
  | ok v1 s1=>
   rw [hq] at h
   obtain ⟨rfl,rfl⟩:=ok_inj h
   exact ⟨h1,fun m=>h2 γ args vals s w _ _ hA hs hq m⟩
 | none=>rw [ho] at h;exact callG_sound hG hE hA hs h
theorem setPs_TR:∀ (ps:List Nat) (args:List AV) (vals:List Value) (tm:Array Value) (t:AT),All2 (VR γ) args vals->args.length=ps.length->(∀ p ∈ ps,p<tm.size)->TR γ t tm->
 TR γ (setPs ps args t) ((ps.zip vals).foldl (fun tmps (t,a)=>tmps.setIfInBounds t a) tm)∧((ps.zip vals).foldl (fun tmps (t,a)=>tmps.setIfInBounds t a) tm).size=tm.size:=by
 intro ps
 induction ps with
 | nil=>intro args vals tm t hA hl _ ht;exact ⟨ht,rfl⟩
 | cons p ps ih=>
  intro args vals tm t hA hl hp ht
  cases hA with
  | nil=>simp at hl
  | @cons x u xs us hx hr=>
   have:=ih xs us (tm.setIfInBounds p u) (t.set x p) hr (by simpa using hl) (fun q hq=>by simpa using hp q (by simp [hq])) (ht.set (hp p (by simp)) hx)
   simp only [List.zip_cons_cons,List.foldl_cons]
   refine ⟨this.1,this.2.trans (by simp)⟩
variable {lp:Loop}
theorem run_getLoop (h:w.heap[b]?=some (.loop lp)):(Instr.getLoop b).run P w=.ok lp w:=by
 have h1:(getObj b).run P w=.ok (.loop lp) w:=by simp only [getObj,Sem.run];rw [h]
 simp only [Instr.getLoop,Sem.run_bind,h1,Result.andThen_ok,Sem.run_pure]
theorem run_setObj_loop (o:Obj) (h:w.heap[b]?=some (.loop lp)):(setObj b o).run P w=.ok () { w with heap:=w.heap.setIfInBounds b o }:=by
 simp only [setObj,Sem.run];rw [h]
variable {L:Loc}
theorem loop_turn (hs:Sim P γ s w) {fn d:Nat}{st st':LoopState}{pend pend':Option Nat}{pc':Option Code}{tm:AT}{ps:List Nat}{asg body:AC}
 (hg:s.get l=some (.loop st pend fn tm ps asg body d)) (hL:γ l=some L) (hlp:w.heap[L.b]?=some (.loop lp)) (hp:pendR pend' pc'):
 Stp γ s w γ (s.put l (.loop st' pend' fn tm ps asg body d)) { w with heap:=w.heap.setIfInBounds L.b (.loop { lp with state:=st',pending:=pc' }) }∧
 Sim P γ (s.put l (.loop st' pend' fn tm ps asg body d)) { w with heap:=w.heap.setIfInBounds L.b (.loop { lp with state:=st',pending:=pc' }) }:=by
 refine turnObj hs hg hL rfl ?_
 obtain ⟨lp0,h1,h2,h3,h4,h5,h6,h7⟩:=hs.obj l _ L hg hL
 rw [hlp] at h1;cases h1
 have hlt:=hs.lt l L hL
 exact ⟨{ lp with state:=st',pending:=pc' },by rw [Array.getElem?_setIfInBounds,if_pos rfl,if_pos hlt],rfl,hp,h4,h5,h6,h7⟩
theorem round_sound (hG:Good P n rec) (hL:γ l=some L) (hA:All2 (VR γ) args vals) (hs:Sim P γ s w) (h:roundA rec l args s=.ok v s'):
 ∃ fn tm asg body,(Instr.yield L.b vals.toArray).run P w=.ok (.round L.b fn tm asg body) w∧∀ m,RoundIn Fence.wide m P L.b fn tm asg body w (CallPost P γ s w v s'):=by
 unfold roundA at h
 obtain ⟨st,pend,fn,tm,ps,asg,body,d,hg,h⟩:=lp_ok h
 obtain ⟨hlen,h⟩:=gd_ok h
 have hlen:=Nat.eq_of_beq_eq_true hlen
 rw [lenL_eq,lenL_eq] at hlen
 obtain ⟨lp,h1,h2,h3,h4,h5,⟨N,hN,hca,hcb,hps⟩,D,hD,hdf⟩:=hs.obj l _ L hg hL
 have hsz:vals.toArray.size=lp.params.size:=by
  have e1:=hA.length
  have e2:lp.params.toList.length=ps.length:=by rw [h5]
  simp at e2 ⊢;omega
 obtain ⟨hT,hTs⟩:=setPs_TR ps args vals lp.tmps tm hA hlen (fun p hp=>Nat.lt_of_lt_of_le (hps p hp) hN) h4
 have hfold:(lp.params.zip vals.toArray).foldl (fun tmps (t,a)=>tmps.setIfInBounds t a) lp.tmps=(ps.zip vals).foldl (fun tmps (t,a)=>tmps.setIfInBounds t a) lp.tmps:=by
  rw [← Array.foldl_toList,Array.toList_zip,h5]
 refine ⟨lp.fn,(ps.zip vals).foldl (fun tmps (t,a)=>tmps.setIfInBounds t a) lp.tmps,lp.assign,lp.body,?_,fun m=>?_⟩
 ·simp only [Instr.yield,Sem.run_bind,run_getLoop h1,Result.andThen_ok]
  rw [if_neg (by simpa using hsz)]
  simp only [Sem.run_bind,Sem.run_pure,Result.andThen_ok,hfold]
 ·unfold roundGo at h
  obtain ⟨x,t1,s1,ds1,hrec,h⟩:=R_ok h
  refine roundIn_of_wpIn trivial ?_
  have hw:=(hG N lp.assign asg γ _ s w { tmps:=(ps.zip vals).foldl (fun tmps (t,a)=>tmps.setIfInBounds t a) lp.tmps,defers:=[] } (some l) (some L.b) [] x t1 s1 ds1 γ s w m hca (by rw [hTs];exact hN) hT hs ⟨L,hL,rfl⟩ .nil (.refl _ _ _) hrec).1
  refine wpIn_mono hw ?_
  rintro ex a1 w1 ⟨rfl,hN1,γ1,hst1,hs1,ht1,hd1⟩
  cases x with
  | exit id=>cases h
  | ret=>cases h
  | normal=>
   change (LP.rec .fail (fun st pend fn tm ps asg b d=>LoopState.rec (roundEnd l (rec body t1 (s1.put l (.loop .busy pend fn tm ps asg b d)) (some l) ds1)) .fail .fail .fail st) (loopAt l s1):RV)=.ok v s' at h
   obtain ⟨st1,pend1,fn1,tm1,ps1,asg1,body1,d1,hg1,h⟩:=lp_ok h
   have hL1:=hst1.le.loc _ _ hL
   obtain ⟨lp1,k1,k2,k3,_⟩:=hs1.obj l _ L hg1 hL1
   cases st1 with
   | ready=>
    obtain ⟨hst2,hs2⟩:=loop_turn (st':=.busy) (pend':=pend1) (pc':=lp1.pending) hs1 hg1 hL1 k1 k3
    refine ⟨{ w1 with heap:=w1.heap.setIfInBounds L.b (.loop { lp1 with state:=.busy,pending:=lp1.pending }) },?_,?_⟩
    rotate_left
    ·change roundEnd l (rec body t1 (s1.put l (.loop .busy pend1 fn1 tm1 ps1 asg1 body1 d1)) (some l) ds1)=.ok v s' at h
     unfold roundEnd at h
     obtain ⟨x2,t2,s2,ds2,hrec2,h⟩:=R_ok h
     have hw2:=(hG N lp.body body γ1 t1 _ _ a1 (some l) (some L.b) ds1 x2 t2 s2 ds2 γ s w m hcb hN1 ht1 hs2 ⟨L,hL,rfl⟩ hd1 (hst1.trans hst2) hrec2).1
     refine wpIn_mono hw2 ?_
     rintro ex2 a2 w2 ⟨rfl,_,γ2,hst3,hs3,ht3,_⟩
     have hL2:=hst3.le.loc _ _ hL
     have fin:∀ (st3:LoopState) (pend3:Option Nat) (b:Bool) (j:Option Code),pendR pend3 j->(st3=if j.isNone then .ready else .done)->b=j.isNone->roundPut l st3 pend3 b s2=.ok v s'->
      ∃ v' w',(Instr.endRound L.b j).run P w2=.ok v' w'∧CallPost P γ s w v s' (.returned v') w':=by
      intro st3 pend3 b j hpj hstj hb hk
      unfold roundPut at hk
      obtain ⟨st4,pend4,fn4,tm4,ps4,asg4,body4,d4,hg4,hk⟩:=lp_ok hk
      obtain ⟨rfl,rfl⟩:=ok_inj hk
      obtain ⟨lp4,j1,_⟩:=hs3.obj l _ L hg4 hL2
      obtain ⟨hst5,hs5⟩:=loop_turn (st':=st3) (pend':=pend3) (pc':=j) hs3 hg4 hL2 j1 hpj
      refine ⟨.bool b,_,?_,.bool b,γ2,rfl,hst3.trans hst5,hs5,.bool _⟩
      subst hb;subst hstj
      simp only [Instr.endRound,Sem.run_bind,run_getLoop j1,Result.andThen_ok,run_setObj_loop _ j1,Sem.run_pure]
     cases x2 with
     | normal=>exact fin .ready none true none rfl rfl rfl h
     | ret=>exact fin .done (some 0) false (some .ret) rfl rfl rfl h
     | exit id=>exact fin .done (some (id+1)) false (some (.exit id)) rfl rfl rfl h
    ·simp only [Instr.beginRound,Sem.run_bind,run_getLoop k1,Result.andThen_ok,run_setObj_loop _ k1,k2,Sem.run_pure]
   | busy=>cases h
   | done=>cases h
   | exhausted=>cases h
end
end Go.AM
namespace Go.AM
section
variable {P:Program}{γ:Gam}{s:St}{w:World}{t:AT}{e:Env}{rec:Rec}{n:Nat}
variable {b:Option Nat}{m:Nat}{f:FuncId}
theorem callsIn_fen {args:Array Value}{R:Ending->World->Prop}(h:CallsIn Fence.wide m P f args w R):CallsIn (fen b) m P f args w R:=by
 cases b with
 | none=>exact h
 | some b=>exact h
theorem roundIn_fen {l:Nat}{tm:Array Value}{asg body:Code}{R:Ending->World->Prop}(h:RoundIn Fence.wide m P l f tm asg body w R):RoundIn (fen b) m P l f tm asg body w R:=by
 cases b with
 | none=>exact h
 | some b=>exact h
variable {fv v:AV}{s':St}
theorem apply_sound (hG:Good P n rec) (hE:EnvOk P e) {fv':Value}{args:List AV}{vals:Array Value}(hf:VR γ fv fv') (hA:All2 (VR γ) args vals.toList) (hs:Sim P γ s w) (h:applyA e rec fv args s=.ok v s'):
 ∃ d,(Deferred.ofValue fv' vals).run P w=.ok d w∧
  ((∃ f xs,(invoke d.target d.args).run P w=.ok (.enter f xs) w∧∀ m,CallsIn Fence.wide m P f xs w (CallPost P γ s w v s'))∨
   (∃ l fn tm asg body,(invoke d.target d.args).run P w=.ok (.round l fn tm asg body) w∧∀ m,RoundIn Fence.wide m P l fn tm asg body w (CallPost P γ s w v s'))):=by
 unfold applyA at h
 cases hq:asFn fv with
 | no=>rw [hq] at h;cases h
 | fn f xs ys=>
  rw [hq] at h
  have:=asFn_fn hq;subst this
  change callA e rec f (appL xs (appL args ys)) s=.ok v s' at h
  rw [appL_eq,appL_eq] at h
  cases hf with
  | fn _ _ _ as bs h1 h2=>
   refine ⟨_,rfl,.inl ?_⟩
   obtain ⟨⟨fn,c,e1,e2,e3⟩,hc⟩:=callA_sound (vals:=as.toList++(vals.toList++bs.toList)) hG hE (h1.append (hA.append h2)) hs h
   have heq:(as.toList++(vals.toList++bs.toList)).toArray=as++vals++bs:=by simp [← List.append_assoc]
   rw [heq] at hc
   refine ⟨f,as++vals++bs,?_,hc⟩
   have h1' : fn.name ≠ "runtime.NumGoroutine" := by simpa using e3
   simp [invoke,callFunc,e1,h1',e2]
 | yld l=>
  rw [hq] at h
  have:=asFn_yld hq;subst this
  cases hf with
  | yld _ L hL=>
   refine ⟨_,rfl,.inr ?_⟩
   obtain ⟨fn,tm,asg,body,hy,hr⟩:=round_sound hG hL hA hs h
   refine ⟨L.b,fn,tm,asg,body,?_,hr⟩
   have heq:(#[]:Array Value)++vals=vals.toList.toArray:=by simp
   simp only [invoke,heq]
   exact hy
def Next (P:Program) (γ:Gam) (s:St) (w:World) (o:Oper) (a:Act) (v:AV) (s':St) (K:Act->World->Prop):Prop:=
 ∀ γ' w' v',Stp γ s w γ' s' w'->Sim P γ' s' w'->(VR γ' v v'∨o.dst=none)->K (a.put o.dst v') w'
variable {args:Array Operand}{ts:Array TypeId}
theorem resolve_value {ρ:Operand->Value}{f:Operand}{ty:TypeId}:resolve ρ { callee:=.value f,args:=args,argTypes:=ts } ty=Deferred.ofValue (ρ f) (args.map ρ):=rfl
variable {o:Oper}{a:Act}{vs:List AV}{K:Act->World->Prop}{Q:Exit->Act->World->Prop}
theorem call_oper (hG:Good P n rec) (hE:EnvOk P e) {f:Operand}
 (hop:o.op=.call { callee:=.value f,args:=args,argTypes:=ts }) (hf:VR γ fv (a.eval f)) (hA:All2 (VR γ) vs (args.toList.map a.eval)) (hs:Sim P γ s w) (h:applyA e rec fv vs s=.ok v s') (hK:Next P γ s w o a v s' K):
 o.wpIn (fen b) m P a w K Q:=by
 refine ⟨fun f _=>fen_fn b f,?_⟩
 rw [Oper.semAt_eq _ _ _ (fun c hc=>by rw [hop] at hc;cases hc)]
 obtain ⟨d,hd,hh⟩:=apply_sound (vals:=args.map a.eval) hG hE hf (by simpa using hA) hs h
 have hrun:∀ nx,(invoke d.target d.args).run P w=.ok nx w->(execOp a.eval o).run P w=.ok nx w:=by
  intro nx hnx
  simp only [execOp,hop,Sem.run_bind,resolve_value,hd,Result.andThen_ok,hnx]
 rcases hh with ⟨f',xs,hi,hc⟩|⟨l,fn,tm,asg,body,hi,hc⟩
 ·rw [hrun _ hi,Oper.uponIn_enter]
  refine ⟨fen_depth b m,callsIn_fen (CallsIn.mono (hc _) ?_)⟩
  rintro _ w' ⟨v',γ',rfl,hst,hs',hv⟩
  exact hK γ' w' v' hst hs' (.inl hv)
 ·rw [hrun _ hi,Oper.uponIn_round]
  refine ⟨fen_depth b m,roundIn_fen (RoundIn.mono (hc _) ?_)⟩
  rintro _ w' ⟨v',γ',rfl,hst,hs',hv⟩
  exact hK γ' w' v' hst hs' (.inl hv)
theorem inv_oper (hG:Good P n rec) (hE:EnvOk P e) {r:Operand}{name:String}{k f:Nat}{u:AV}
 (hop:o.op=.call { callee:=.invoke r name,args:=args,argTypes:=ts }) (hr:VR γ (.iface k u) (a.eval r)) (hf:invAt P name k=some f) (hA:All2 (VR γ) vs (args.toList.map a.eval)) (hs:Sim P γ s w) (h:callA e rec f (u::vs) s=.ok v s') (hK:Next P γ s w o a v s' K):
 o.wpIn (fen b) m P a w K Q:=by
 refine ⟨fun f _=>fen_fn b f,?_⟩
 rw [Oper.semAt_eq _ _ _ (fun c hc=>by rw [hop] at hc;cases hc)]
 generalize hrv:a.eval r=rv at hr
 cases hr with
 | iface _ _ u' hu=>
  obtain ⟨⟨fn,c,e1,e2,e3⟩,hc⟩:=callA_sound (vals:=u'::args.toList.map a.eval) hG hE (.cons hu hA) hs h
  have hrun:(execOp a.eval o).run P w=.ok (.enter f (u'::args.toList.map a.eval).toArray) w:=by
   have h1' : fn.name ≠ "runtime.NumGoroutine" := by simpa using e3
   have hm:=run_method (w:=w) (v:=u') hf
   have hx:(#[Value.iface k u']++Array.map a.eval args).extract 1 (#[Value.iface k u']++Array.map a.eval args).size=Array.map a.eval args:=by
    obtain ⟨l⟩:=args
    apply Array.ext'
    rw [Array.toList_extract,List.extract_eq_take_drop]
    simp
    rw [List.take_of_length_le (by simp)]
   have hx2:#[u']++Array.map a.eval args=(u'::args.toList.map a.eval).toArray:=by
    obtain ⟨l⟩:=args
    simp
   have hg0:(#[Value.iface k u']++Array.map a.eval args)[0]?=some (.iface k u'):=by
    obtain ⟨l⟩:=args
    simp
   simp only [execOp,hop,resolve,hrv,Sem.run_bind,Sem.run_pure,Result.andThen_ok,invoke,hg0,hx,callMethod]
   simp [hm,hx2,callFunc,e1,h1',e2]
  rw [hrun,Oper.uponIn_enter]
  refine ⟨fen_depth b m,callsIn_fen (CallsIn.mono (hc _) ?_)⟩
  rintro _ w' ⟨v',γ',rfl,hst,hs',hv⟩
  exact hK γ' w' v' hst hs' (.inl hv)
theorem plain_oper (hd:∀ c,o.op≠.defer c) (h:OpOk P γ s w a.eval o v s') (hK:Next P γ s w o a v s' K):
 o.wpIn (fen b) m P a w K Q:=by
 refine ⟨fun f _=>fen_fn b f,?_⟩
 rw [Oper.semAt_eq _ _ _ hd]
 obtain ⟨γ',w',hst,hs',⟨v',hr,hv⟩|⟨hr,hn⟩⟩:=h
 ·rw [hr,Oper.uponIn_value];exact hK γ' w' v' hst hs' (.inl hv)
 ·rw [hr,Oper.uponIn_skip];exact hK γ' w' undef hst hs' (.inr hn)
variable {p:AOp}
theorem comp_no_defer (h:compOp0 P o=some p):∀ c,o.op≠.defer c:=by
 intro c hc
 simp only [compOp0,hc] at h
 cases h
theorem oper_sound0 (hG:Good P n rec) (hE:EnvOk P e) (hc:compOp0 P o=some p)
 (he:Evs γ t a.eval o.op.operands.toList) (hs:Sim P γ s w) (h:opA p e rec t s=.ok v s') (hK:Next P γ s w o a v s' K):o.wpIn (fen b) m P a w K Q:=by
 have hnd:=comp_no_defer hc
 cases hp:isCall p with
 | false=>
  rcases op_sound (w:=w) he hc hp h with ⟨_,hf⟩|⟨_,hf⟩
  ·exact plain_oper hnd (hf.ok hs) hK
  ·exact plain_oper hnd (hf hs) hK
 | true=>
  cases hop:o.op with
  | call c=>
   obtain ⟨cal,args,ts⟩:=c
   have hc':=hc
   simp only [compOp0,hop] at hc'
   rw [hop] at he
   cases cal with
   | value f=>
    have hef:Evs γ t a.eval [f]:=fun x hx=>he x (by simp [Op.operands,Call.operands] at hx ⊢;exact .inl hx)
    have hea:Evs γ t a.eval args.toList:=fun x hx=>he x (by simp [Op.operands,Call.operands] at hx ⊢;exact .inr hx)
    split at hc'
    ·rename_i f' hf'
     cases hf'
     obtain ⟨as,has,rfl⟩:=map_some hc'
     change (Option.rec .fail (fun vs=>Option.rec (callA e rec f' vs s) (fun h=>h vs s) (e.X.get f')) (evs t as):RV)=.ok v s' at h
     obtain ⟨vs,hvs,h⟩:=opt_ok h
     cases hX:e.X.get f' with
     | some hh=>
     rw [hX] at h
     obtain ⟨v',γ',w',hr,hst,hsim,hv⟩:=hE.X f' hh hX γ vs (args.toList.map a.eval) s w v s' (aops_evs has hvs hea) hs h
     refine plain_oper hnd ⟨γ',w',hst,hsim,.inl ⟨v',?_,hv⟩⟩ hK
     simp only [execOp,hop,Sem.run_bind,resolve_value]
     have hvv:(List.map a.eval args.toList).toArray=Array.map a.eval args:=by obtain ⟨l⟩:=args;simp
     rw [hvv] at hr
     simpa [Act.eval,Deferred.ofValue,invoke] using hr
     | none=>
     rw [hX] at h
     refine call_oper hG hE hop (fv:=.fn f' [] []) (.fn _ _ _ _ _ .nil .nil) (aops_evs has hvs hea) hs ?_ hK
     change callA e rec f' (appL [] (appL vs [])) s=.ok v s'
     rw [appL_eq,appL_eq];simpa using h
    ·rename_i g _ hg
     cases hg
     split at hc'
     ·rename_i x as hx has
      cases hc'
      obtain ⟨fv,hfv,h⟩:=wth_ok h
      obtain ⟨vs,hvs,h⟩:=opt_ok h
      exact call_oper hG hE hop (hef f (by simp) x fv hx hfv) (aops_evs has hvs hea) hs h hK
     ·cases hc'
    ·rename_i hq;cases hq
    ·rename_i hq;cases hq
   | builtin bi=>
    exfalso
    simp only at hc'
    unfold compBuiltin at hc'
    repeat' split at hc'
    all_goals first
     | (cases hc';done)
     | (obtain ⟨_,_,rfl⟩:=map_some hc';cases hp;done)
     | (cases hc';cases hp;done)
   | invoke r mth=>
    have her:Evs γ t a.eval [r]:=fun x hx=>he x (by simp [Op.operands,Call.operands] at hx ⊢;exact .inl hx)
    have hea:Evs γ t a.eval args.toList:=fun x hx=>he x (by simp [Op.operands,Call.operands] at hx ⊢;exact .inr hx)
    simp only at hc'
    split at hc'
    ·rename_i x as hx has
     cases hc'
     obtain ⟨xv,hxv,h⟩:=wth_ok h
     obtain ⟨vs,hvs,h⟩:=opt_ok h
     obtain ⟨k,u,rfl,h⟩:=if_ok h
     obtain ⟨f,hf,h⟩:=opt_ok h
     exact inv_oper hG hE hop (her r (by simp) x _ hx hxv) (invTab_some hf) (aops_evs has hvs hea) hs h hK
    ·cases hc'
  | makeFunc f as bs=>
   exfalso
   have hc':=hc
   cases f with
   | func f=>
    simp only [compOp0,hop] at hc'
    split at hc'
    ·cases hc';cases hp
    ·cases hc'
   | _=>simp only [compOp0,hop] at hc';cases hc'
  | makeMap ty r=>
   exfalso
   have hc':=hc
   cases r with
   | none=>simp only [compOp0,hop] at hc';cases hc';cases hp
   | some r=>simp only [compOp0,hop] at hc';cases hc'
  | next x str=>
   exfalso
   have hc':=hc
   cases str with
   | true=>simp only [compOp0,hop] at hc';cases hc'
   | false=>
    simp only [compOp0,hop] at hc'
    obtain ⟨_,_,rfl⟩:=map_some hc';cases hp
  | typeAssert x xt ty ok=>
   exfalso
   have hc':=hc
   cases ok with
   | false=>simp only [compOp0,hop] at hc';cases hc'
   | true=>
    simp only [compOp0,hop] at hc'
    repeat' split at hc'
    all_goals first
     | (cases hc';done)
     | (cases hc';cases hp;done)
  | _=>
   exfalso
   have hc':=hc
   simp only [compOp0,hop] at hc'
   repeat' split at hc'
   all_goals first
    | (cases hc';done)
    | (obtain ⟨_,_,rfl⟩:=map_some hc';cases hp;done)
    | (cases hc';cases hp;done)
theorem oper_sound (hG:Good P n rec) (hE:EnvOk P e) (hc:compOp P o=some p)
 (he:Evs γ t a.eval o.op.operands.toList) (hs:Sim P γ s w) (h:opA p e rec t s=.ok v s') (hK:Next P γ s w o a v s' K):o.wpIn (fen b) m P a w K Q:=by
 rcases compOp_cases hc with hc|rfl
 ·exact oper_sound0 hG hE hc he hs h hK
 ·cases h
end
end Go.AM
namespace Go.AM
section
variable {P:Program}{γ:Gam}{s:St}{w:World}{t:AT}{e:Env}{rec:Rec}{n:Nat}
variable {x:Ex}{t':AT}{s':St}{ds':List Nat}
theorem RT_ok {k:AT->St->R}{r:RT}(h:(RT.rec .fail k r:R)=.ok x t' s' ds'):∃ t1 s1,r=.ok t1 s1∧k t1 s1=.ok x t' s' ds':=by
 cases r with
 | fail=>cases h
 | ok t1 s1=>exact ⟨t1,s1,rfl,h⟩
theorem RR_ok {k:Ex->AT->St->List Nat->R}{r:R}(h:(R.rec .fail k r:R)=.ok x t' s' ds'):∃ x1 t1 s1 ds1,r=.ok x1 t1 s1 ds1∧k x1 t1 s1 ds1=.ok x t' s' ds':=by
 cases r with
 | fail=>cases h
 | ok x1 t1 s1 ds1=>exact ⟨x1,t1,s1,ds1,rfl,h⟩
theorem RV_ok {k:AV->St->R}{r:RV}(h:(RV.rec .fail k r:R)=.ok x t' s' ds'):∃ v s1,r=.ok v s1∧k v s1=.ok x t' s' ds':=by
 cases r with
 | fail=>cases h
 | ok v s1=>exact ⟨v,s1,rfl,h⟩
theorem OV_ok {k:AV->R}{r:OV}(h:(OV.rec .fail k r:R)=.ok x t' s' ds'):∃ v,r=.some v∧k v=.ok x t' s' ds':=by
 cases r with
 | none=>cases h
 | some v=>exact ⟨v,rfl,h⟩
variable {l:Nat}
theorem LPR_ok {k:LoopState->Option Nat->Nat->AT->List Nat->AC->AC->Nat->R}(h:(LP.rec .fail k (loopAt l s):R)=.ok x t' s' ds'):
 ∃ st pend fn tm ps asg body d,s.get l=some (.loop st pend fn tm ps asg body d)∧k st pend fn tm ps asg body d=.ok x t' s' ds':=by
 unfold loopAt at h
 cases hg:s.get l with
 | none=>rw [hg] at h;cases h
 | some o=>
  rw [hg] at h
  cases o with
  | loop st pend fn tm ps asg body d=>exact ⟨st,pend,fn,tm,ps,asg,body,d,rfl,h⟩
  | _=>cases h
theorem opsA_cons {d:Nat}{p:AOp}{g:Option (Nat×Bool)}{l:List AOper}(h:opsA e rec (.mk d p g::l) t s=.ok t' s'):
 (wantedA g t=1∧opsA e rec l (putT d (.tup []) t) s=.ok t' s')∨(wantedA g t=2∧∃ v s1,opA p e rec t s=.ok v s1∧opsA e rec l (putT d v t) s1=.ok t' s'):=by
 change (Nat.rec .fail (fun w _=>Nat.rec (opsA e rec l (putT d (.tup []) t) s) (fun _ _=>RV.rec .fail (fun v s'=>opsA e rec l (putT d v t) s') (opA p e rec t s)) w) (wantedA g t):RT)=.ok t' s' at h
 have hw:wantedA g t=0∨wantedA g t=1∨wantedA g t=2:=by
  cases g with
  | none=>exact .inr (.inr rfl)
  | some q=>
   obtain ⟨j,b⟩:=q
   show (Option.rec 0 (fun v=>BR.rec (Bool.rec 1 0 (isAny v)) (Bool.rec 1 2 b) (Bool.rec 2 1 b) (asBool v)) (t.get j):Nat)=0∨(Option.rec 0 (fun v=>BR.rec (Bool.rec 1 0 (isAny v)) (Bool.rec 1 2 b) (Bool.rec 2 1 b) (asBool v)) (t.get j):Nat)=1∨(Option.rec 0 (fun v=>BR.rec (Bool.rec 1 0 (isAny v)) (Bool.rec 1 2 b) (Bool.rec 2 1 b) (asBool v)) (t.get j):Nat)=2
   cases t.get j with
   | none=>exact .inl rfl
   | some v=>
    show (BR.rec (Bool.rec 1 0 (isAny v)) (Bool.rec 1 2 b) (Bool.rec 2 1 b) (asBool v):Nat)=0∨(BR.rec (Bool.rec 1 0 (isAny v)) (Bool.rec 1 2 b) (Bool.rec 2 1 b) (asBool v):Nat)=1∨(BR.rec (Bool.rec 1 0 (isAny v)) (Bool.rec 1 2 b) (Bool.rec 2 1 b) (asBool v):Nat)=2
    cases asBool v <;> cases b <;> cases isAny v <;> simp
 rcases hw with hw|hw|hw
 ·rw [hw] at h;cases h
 ·rw [hw] at h;exact .inl ⟨hw,h⟩
 ·rw [hw] at h
  change (RV.rec .fail (fun v s'=>opsA e rec l (putT d v t) s') (opA p e rec t s):RT)=.ok t' s' at h
  cases ho:opA p e rec t s with
  | fail=>rw [ho] at h;cases h
  | ok v s1=>rw [ho] at h;exact .inr ⟨hw,v,s1,rfl,h⟩
variable {N m:Nat}{b:Option Nat}{γ0:Gam}{s0:St}{w0:World}{ds:List Nat}
theorem list_sound (hG:Good P n rec) (hE:EnvOk P e) {ops:Array Oper}:∀ (l:List Oper) (al:List AOper) (γ:Gam) (t:AT) (s:St) (w:World) (a:Act),
 compOpers P N ops l=some al->N≤a.tmps.size->TR γ t a.tmps->Sim P γ s w->DR γ ds a.defers->Stp γ0 s0 w0 γ s w->opsA e rec al t s=.ok t' s'->
 wpListIn (fen b) m P ops (Post P γ0 s0 w0 N .normal t' s' ds) l a w:=by
 intro l
 induction l with
 | nil=>
  intro al γ t s w a hc hN ht hs hd hst h
  cases hc;cases h
  exact ⟨rfl,hN,γ,hst,hs,ht,hd⟩
 | cons o l ih=>
  intro al γ t s w a hc hN ht hs hd hst h
  simp only [compOpers] at hc
  split at hc
  ·rename_i d p g r h1 h2 h3 h4
   cases hc
   obtain ⟨hw2,hw1⟩:=wanted_sound ht h3
   simp only [wpListIn]
   rcases opsA_cons h with ⟨hw,h⟩|⟨hw,v,s1,hop,h⟩
   ·rw [if_neg (by rw [hw1 hw];simp)]
    refine ⟨fun f _=>fen_fn b f,?_⟩
    exact ih r γ _ s w _ h4 (by rw [put_size];exact hN) (ht.put hN h1 (.inl undef_VR)) hs (by rw [put_defers];exact hd) hst h
   ·rw [if_pos (hw2 hw)]
    refine oper_sound hG hE h2 (Evs.of_TR ht _) hs hop ?_
    intro γ' w' v' hst' hs' hv
    exact ih r γ' _ s1 w' _ h4 (by rw [put_size];exact hN) ((ht.mono hst'.le).put hN h1 hv) hs' (by rw [put_defers];exact hd.mono hst'.le) (hst.trans hst') h
  ·cases hc
def DrawGood (P:Program) (e:Env) (rec:Rec):Prop:=
 ∀ (N:Nat) (id:Nat) (ops:Array Oper) (al:List AOper) (γ:Gam) (t:AT) (s:St) (w:World) (a:Act) (b:Option Nat) (ds:List Nat) (t':AT) (s':St) (γ0:Gam) (s0:St) (w0:World) (m:Nat),
  compDraw P N ops=some al->N≤a.tmps.size->TR γ t a.tmps->Sim P γ s w->DR γ ds a.defers->Stp γ0 s0 w0 γ s w->opsA e rec al t s=.ok t' s'->
  (Code.region id ops true).wpIn (fen b) m P (Post P γ0 s0 w0 N .normal t' s' ds) a w
theorem applyF_sound (hG:Good P n rec) (hE:EnvOk P e) {fv:AV}{fv':Value}{args:List AV}{vals:Array Value}{v:AV}(hf:VR γ fv fv') (hA:All2 (VR γ) args vals.toList) (hs:Sim P γ s w) (h:applyF e rec fv args s=.ok v s'):
 ∃ d,(Deferred.ofValue fv' vals).run P w=.ok d w∧∃ f xs,(invoke d.target d.args).run P w=.ok (.enter f xs) w∧∀ m,CallsIn Fence.wide m P f xs w (CallPost P γ s w v s'):=by
 unfold applyF at h
 cases hq:asFn fv with
 | no=>rw [hq] at h;cases h
 | yld l=>rw [hq] at h;cases h
 | fn f xs ys=>
  rw [hq] at h
  have:=asFn_fn hq;subst this
  change callA e rec f (appL xs (appL args ys)) s=.ok v s' at h
  rw [appL_eq,appL_eq] at h
  cases hf with
  | fn _ _ _ as bs h1 h2=>
   refine ⟨_,rfl,?_⟩
   obtain ⟨⟨fn,c,e1,e2,e3⟩,hc⟩:=callA_sound (vals:=as.toList++(vals.toList++bs.toList)) hG hE (h1.append (hA.append h2)) hs h
   have heq:(as.toList++(vals.toList++bs.toList)).toArray=as++vals++bs:=by simp [← List.append_assoc]
   rw [heq] at hc
   refine ⟨f,as++vals++bs,?_,hc⟩
   have h1' : fn.name ≠ "runtime.NumGoroutine" := by simpa using e3
   simp [invoke,callFunc,e1,h1',e2]
variable {a:Act}
theorem rng_end {L:Loc}{v':Value}(hN:N≤a.tmps.size) (ht:TR γ t a.tmps) (hs:Sim P γ s w) (hL:γ l=some L) (hd:DR γ ds a.defers) (hst:Stp γ0 s0 w0 γ s w)
 (h:rngEnd l ds t s=.ok x t' s' ds'):rangePost (fen b) m P L.b (Post P γ0 s0 w0 N x t' s' ds') a (.returned v') w:=by
 unfold rngEnd at h
 obtain ⟨st,pend,fn,tm,ps,asg,body,d,hg,h⟩:=LPR_ok h
 obtain ⟨lp,k1,k2,k3,_⟩:=hs.obj l _ L hg hL
 have hend:st≠.busy->(Instr.endLoop L.b).run P w=.ok lp.pending { w with heap:=w.heap.setIfInBounds L.b (.loop { lp with state:=.exhausted,pending:=lp.pending }) }:=by
  intro hb
  have:(lp.state == LoopState.busy)=false:=by rw [k2];cases st <;> first|rfl|exact absurd rfl hb
  simp only [Instr.endLoop,Sem.run_bind,run_getLoop k1,Result.andThen_ok,this]
  simp only [Bool.false_eq_true,if_false,Sem.run_bind,Sem.run_pure,Result.andThen_ok,run_setObj_loop _ k1]
 obtain ⟨hst2,hs2⟩:=loop_turn (st':=.exhausted) (pend':=pend) (pc':=lp.pending) hs hg hL k1 k3
 have fin:st≠.busy->rngPend l fn tm ps asg body d pend ds t s=.ok x t' s' ds'->rangePost (fen b) m P L.b (Post P γ0 s0 w0 N x t' s' ds') a (.returned v') w:=by
  intro hb hk
  refine ⟨_,_,hend hb,?_⟩
  have hpost:Post P γ0 s0 w0 N x t (s.put l (.loop .exhausted pend fn tm ps asg body d)) ds (exOf x) a { w with heap:=w.heap.setIfInBounds L.b (.loop { lp with state:=.exhausted,pending:=lp.pending }) }:=
   ⟨rfl,hN,γ,hst.trans hst2,hs2,ht,hd⟩
  cases pend with
  | none=>
   cases hk
   rw [show lp.pending=none from k3] at hpost ⊢
   exact hpost
  | some i=>
   cases i with
   | zero=>
    cases hk
    rw [show lp.pending=some .ret from k3] at hpost ⊢
    exact wpIn_ret hpost
   | succ id=>
    cases hk
    rw [show lp.pending=some (.exit id) from k3] at hpost ⊢
    exact wpIn_exit hpost
 cases st with
 | ready=>exact fin (by simp) h
 | busy=>cases h
 | done=>exact fin (by simp) h
 | exhausted=>exact fin (by simp) h
theorem rng_sound (hG:Good P n rec) (hE:EnvOk P e) {rd:Option Nat}{g:Operand}{ga:AO}{ps:Array Tmp}{asg body:Code}{aa ab:AC}
 (hg:aop g=some ga) (hca:comp P N asg=some aa) (hcb:comp P N body=some ab) (hps:∀ p ∈ ps.toList,p<N) (hN:N≤a.tmps.size) (ht:TR γ t a.tmps) (hs:Sim P γ s w) (hrd:RD γ rd b) (hd:DR γ ds a.defers) (hst:Stp γ0 s0 w0 γ s w)
 (h:rngC ga ps.toList aa ab e rec t s rd ds=.ok x t' s' ds'):(Code.rangeFunc g ps asg body).wpIn (fen b) m P (Post P γ0 s0 w0 N x t' s' ds') a w:=by
 refine wpIn_rangeFunc fun fn _=>?_
 unfold rngC at h
 obtain ⟨gv,hgv,h⟩:=OV_ok h
 have hgR:=ev_VR ht hg hgv
 -- the record laid,the call,the end
 have go:∀ (γ1:Gam) (s1:St) (w1:World) (d:Nat) (D:Loc) (ds1:List Nat) (mark:List Deferred),Stp γ0 s0 w0 γ1 s1 w1->Sim P γ1 s1 w1->Le γ γ1->γ1 d=some D->DR γ1 ds1 (mark++a.defers)->
  rngGo e rec gv ps.toList aa ab t d ds1 s1=.ok x t' s' ds'->
  (Instr.enterLoop fn a.tmps ps asg body (fen b).round).run P w=.ok (w1.heap.size,mark) (w1.alloc (.loop { state:=.ready,pending:=none,fn:=fn,tmps:=a.tmps,params:=ps,assign:=asg,body:=body,defers:=D.b }))->
  ∃ (l:Nat) (mark:List Deferred) (w₁:World) (d:Deferred) (w₁':World) (f:FuncId) (args:Array Value) (w₂:World),
  (Instr.enterLoop fn a.tmps ps asg body (fen b).round).run P w=.ok (l,mark) w₁∧
  (resolve a.eval (rangeCall g l) 0).run P w₁=.ok d w₁'∧
  (∀ f',Target.leads P w₁' d.target d.args=some f'->(fen b).fn f')∧
  (invoke d.target d.args).run P w₁'=.ok (.enter f args) w₂∧
  ((fen b).depth.isSome=true->1≤m)∧
  CallsIn (fen b) (m-1) P f args w₂ (rangePost (fen b) m P l (Post P γ0 s0 w0 N x t' s' ds') { a with defers:=mark++a.defers }):=by
  intro γ1 s1 w1 d D ds1 mark hst1 hs1 hle hdD hdr hgo henter
  unfold rngGo at hgo
  obtain ⟨v,s2,hcall,hgo⟩:=RV_ok hgo
  obtain ⟨hst2,hs2⟩:=hs1.alloc (.loop .ready none 0 t ps.toList aa ab d) (.loop { state:=.ready,pending:=none,fn:=fn,tmps:=a.tmps,params:=ps,assign:=asg,body:=body,defers:=D.b }) 0 0
   ⟨{ state:=.ready,pending:=none,fn:=fn,tmps:=a.tmps,params:=ps,assign:=asg,body:=body,defers:=D.b },by show (w1.heap.push _)[w1.heap.size]?=_;simp,rfl,rfl,(ht.mono hle).mono (ext_le (hs1.nx _ (Nat.le_refl _))),rfl,⟨N,hN,hca,hcb,hps⟩,D,(ext_le (hs1.nx _ (Nat.le_refl _))).loc _ _ hdD,rfl⟩
  obtain ⟨df,hdf,f,xs,hinv,hc⟩:=applyF_sound (vals:=#[.func (.yield w1.heap.size) #[] #[]]) hG hE ((hgR.mono hle).mono hst2.le) (.cons (.yld _ _ (ext_same _ _ _)) .nil) hs2 hcall
  refine ⟨w1.heap.size,mark,_,df,_,f,xs,_,henter,?_,fun f' _=>fen_fn b f',hinv,fen_depth b m,callsIn_fen (CallsIn.mono (hc _) ?_)⟩
  ·have hmap:(#[Operand.const (.func (.yield w1.heap.size) #[] #[])]:Array Operand).map a.eval=#[.func (.yield w1.heap.size) #[] #[]]:=by simp [Act.eval]
   show (Deferred.ofValue (a.eval g) ((#[Operand.const (.func (.yield w1.heap.size) #[] #[])]:Array Operand).map a.eval)).run P _=_
   rw [hmap];exact hdf
  ·rintro _ w3 ⟨v',γ3,rfl,hst3,hs3,_⟩
   exact rng_end (L:=⟨w1.heap.size,0,0,0⟩) (a:={ a with defers:=mark++a.defers }) hN (((ht.mono hle).mono hst2.le).mono hst3.le) hs3 (hst3.le.loc _ _ (ext_same _ _ _)) ((hdr.mono hst2.le).mono hst3.le) ((hst1.trans hst2).trans hst3) hgo
 cases rd with
 | none=>
  cases hrd
  obtain ⟨hst1,hs1⟩:=hs.alloc .defd (.deferred (some [])) 0 0 (by show (w.heap.push _)[w.heap.size]?=_;simp)
  refine go _ _ _ s.next ⟨w.heap.size,0,0,0⟩ _ [{ target:=.collected w.heap.size,args:=#[] }] (hst.trans hst1) hs1 hst1.le (ext_same _ _ _) (.cons ⟨_,ext_same _ _ _,rfl⟩ (hd.mono hst1.le)) h ?_
  rw [fen_round]
  simp only [Instr.enterLoop,Sem.run_bind,run_new',Result.andThen_ok,Sem.run_pure]
 | some l=>
  obtain ⟨L,hL,rfl⟩:=hrd
  obtain ⟨st,pend,fn0,tm,ps0,asg0,body0,d,hgl,h⟩:=LPR_ok h
  obtain ⟨lp,k1,_,_,_,_,_,D,hD,hDf⟩:=hs.obj l _ L hgl hL
  refine go γ s w d D ds [] hst hs (Le.refl γ) hD (by simpa using hd) h ?_
  rw [fen_round]
  simp only [Instr.enterLoop,Sem.run_bind,run_getLoop k1,run_new',Result.andThen_ok,Sem.run_pure,hDf]
theorem then_of {x1:Ex}{t1:AT}{s1:St}{ds1:List Nat}{y:R}(hk:(Ex.rec y (fun id=>.ok (.exit id) t1 s1 ds1) (.ok .ret t1 s1 ds1) x1:R)=.ok x t' s' ds') {K:Act->World->Prop}
 (hK:∀ γ1 a1 w1,y=.ok x t' s' ds'->N≤a1.tmps.size->TR γ1 t1 a1.tmps->Sim P γ1 s1 w1->DR γ1 ds1 a1.defers->Stp γ0 s0 w0 γ1 s1 w1->K a1 w1):
 ∀ ex a1 w1,Post P γ0 s0 w0 N x1 t1 s1 ds1 ex a1 w1->Exit.then K (Post P γ0 s0 w0 N x t' s' ds') ex a1 w1:=by
 rintro ex a1 w1 ⟨rfl,q1,γ1,q2,q3,q4,q5⟩
 cases x1 with
 | normal=>exact hK γ1 a1 w1 hk q1 q4 q3 q5 q2
 | exit id=>cases hk;exact ⟨rfl,q1,γ1,q2,q3,q4,q5⟩
 | ret=>cases hk;exact ⟨rfl,q1,γ1,q2,q3,q4,q5⟩
variable {k:List Item}{cs:List Frame}{c:Code}
theorem stepR_scopeA {b:Frame}:
 step P (lone (b.atR a (.code (.scope c)::k)) cs w)=.next (lone (b.atR a (.code c::.inScope c::k)) cs w):=
 step_lone_go (by simp [stepG,stepG.exec,Frame.atR])
theorem stepR_inScopeA {b:Frame}:
 step P (lone (b.atR a (.inScope c::k)) cs w)=.next (lone (b.atR a k) cs w):=
 step_lone_go (by simp [stepG,stepG.exec,Frame.atR])
theorem wpIn_scopeA {F:Fence}{Q:Exit->Act->World->Prop}(hg:∀ l a w,¬ Q (.goto l) a w) (h:c.wpIn F m P Q a w):(Code.scope c).wpIn F m P Q a w:=by
 intro b k cs hro hb hr
 have h0:(lone (b.atR a (.code (.scope c)::k)) cs w).fenced P F:=fenced_calm hb hr rfl
 obtain ⟨e,a₁,w₁,hq,harr⟩:=h b (.inScope c::k) cs hro hb hr
 cases e with
 | normal=>exact ⟨.normal,a₁,w₁,hq,.head h0 stepR_scopeA (StepsIn.trans harr (.one (fenced_calm hb hr rfl) stepR_inScopeA))⟩
 | exit id=>
  have hx:exitTo id (.inScope c::k)=exitTo id k:=by simp [exitTo]
  exact ⟨.exit id,a₁,w₁,hq,fun k' hk=>.head h0 stepR_scopeA (harr.1 k' (by rw [hx];exact hk)),
   fun hr' hk=>let ⟨k₁,h1,h2⟩:=harr.2 hr' (by rw [hx];exact hk);⟨k₁,h1,.head h0 stepR_scopeA h2⟩⟩
 | goto l=>exact absurd hq (hg l _ _)
 | ret=>exact ⟨_,a₁,w₁,hq,.of_steps (.one h0 stepR_scopeA) harr⟩
 | panic ch=>exact ⟨_,a₁,w₁,hq,.of_steps (.one h0 stepR_scopeA) harr⟩
 | outgrown=>exact ⟨_,a₁,w₁,hq,.of_steps (.one h0 stepR_scopeA) harr⟩
theorem exec_sound (hE:EnvOk P e) (hD:∀ n rec,Good P n rec->DrawGood P e rec):∀ n,Good P n (exec e n):=by
 intro n
 induction n with
 | zero=>intro N c ac γ t s w a rd b ds x t' s' ds' γ0 s0 w0 m _ _ _ _ _ _ _ h;cases h
 | succ n ih=>
  intro N c ac γ t s w a rd b ds x t' s' ds' γ0 s0 w0 m hc hN ht hs hrd hd hst h
  change acF ac e (exec e n) t s rd ds=.ok x t' s' ds' at h
  cases c with
  | skip=>
   cases hc;cases h
   exact ⟨wpIn_skip ⟨rfl,hN,γ,hst,hs,ht,hd⟩,fun c' hc'=>by cases hc'⟩
  | ret=>
   cases hc;cases h
   exact ⟨wpIn_ret ⟨rfl,hN,γ,hst,hs,ht,hd⟩,fun c' hc'=>by cases hc'⟩
  | label l=>
   cases hc;cases h
   exact ⟨wpIn_label ⟨rfl,hN,γ,hst,hs,ht,hd⟩,fun c' hc'=>by cases hc'⟩
  | scope c1=>
   refine ⟨?_,fun c' hc'=>by cases hc'⟩
   obtain ⟨a1,h1,rfl⟩:=map_some (show (comp P N c1).map AC.scope=some ac from hc)
   refine wpIn_scopeA (fun l a w hp=>?_) (ih N c1 a1 γ t s w a rd b ds x t' s' ds' γ0 s0 w0 m h1 hN ht hs hrd hd hst h).1
   cases x <;> exact absurd hp.1 (by simp [exOf])
  | exit id=>
   cases hc;cases h
   exact ⟨wpIn_exit ⟨rfl,hN,γ,hst,hs,ht,hd⟩,fun c' hc'=>by cases hc'⟩
  | region id ops dr=>
   refine ⟨?_,fun c' hc'=>by cases hc'⟩
   cases dr with
   | false=>
    obtain ⟨al,hal,rfl⟩:=map_some (show (compOpers P N ops ops.toList).map AC.reg=some ac from hc)
    obtain ⟨t1,s1,hops,hk⟩:=RT_ok (show (RT.rec .fail (fun t' s'=>.ok .normal t' s' ds) (opsA e (exec e n) al t s):R)=.ok x t' s' ds' from h)
    cases hk
    exact wpIn_region_list (list_sound ih hE ops.toList al γ t s w a hal hN ht hs hd hst hops)
   | true=>
    have hc':some (((compDraw P N ops).map AC.reg).getD badC)=some ac:=hc
    cases hal:compDraw P N ops with
    | none=>rw [hal] at hc';cases hc';cases h
    | some al=>
    rw [hal] at hc';cases hc'
    obtain ⟨t1,s1,hops,hk⟩:=RT_ok (show (RT.rec .fail (fun t' s'=>.ok .normal t' s' ds) (opsA e (exec e n) al t s):R)=.ok x t' s' ds' from h)
    cases hk
    exact hD n _ ih N id ops al γ t s w a b ds t' s' γ0 s0 w0 m hal hN ht hs hd hst hops
  | seq c1 c2=>
   refine ⟨?_,fun c' hc'=>by cases hc'⟩
   simp only [comp] at hc
   split at hc
   ·rename_i a1 a2 h1 h2
    cases hc
    obtain ⟨x1,t1,s1,ds1,hr,hk⟩:=RR_ok (show (R.rec .fail (fun x t s ds=>Ex.rec (exec e n a2 t s rd ds) (fun id=>.ok (.exit id) t s ds) (.ok .ret t s ds) x) (exec e n a1 t s rd ds):R)=.ok x t' s' ds' from h)
    refine wpIn_seq (wpIn_mono (ih N c1 a1 γ t s w a rd b ds x1 t1 s1 ds1 γ0 s0 w0 m h1 hN ht hs hrd hd hst hr).1 (then_of hk ?_))
    intro γ1 a1' w1 hy q1 q2 q3 q4 q5
    exact (ih N c2 a2 γ1 t1 s1 w1 a1' rd b ds1 x t' s' ds' γ0 s0 w0 m h2 q1 q2 q3 hrd q4 q5 hy).1
   ·cases hc
  | cond x0 c1 c2=>
   refine ⟨?_,fun c' hc'=>by cases hc'⟩
   simp only [comp] at hc
   split at hc
   ·rename_i y a1 a2 h0 h1 h2
    cases hc
    obtain ⟨v,hv,hk⟩:=OV_ok (show (OV.rec .fail (fun v=>BR.rec .fail (exec e n a1 t s rd ds) (exec e n a2 t s rd ds) (asBool v)) (ev y t):R)=.ok x t' s' ds' from h)
    have hR:=ev_VR ht h0 hv
    cases hb:asBool v with
    | no=>rw [hb] at hk;cases hk
    | tt=>
     rw [hb] at hk
     rw [asBool_tt hb] at hR
     exact wpIn_cond_true (boolV hR) (ih N c1 a1 γ t s w a rd b ds x t' s' ds' γ0 s0 w0 m h1 hN ht hs hrd hd hst hk).1
    | ff=>
     rw [hb] at hk
     rw [asBool_ff hb] at hR
     exact wpIn_cond_false (boolV hR) (ih N c2 a2 γ t s w a rd b ds x t' s' ds' γ0 s0 w0 m h2 hN ht hs hrd hd hst hk).1
   ·cases hc
  | block id c1=>
   refine ⟨?_,fun c' hc'=>by cases hc'⟩
   obtain ⟨a1,h1,rfl⟩:=map_some (show (comp P N c1).map (AC.block id)=some ac from hc)
   obtain ⟨x1,t1,s1,ds1,hr,hk⟩:=RR_ok (show (R.rec .fail (fun x t s ds=>Ex.rec (.ok .normal t s ds) (fun id'=>Bool.rec (.ok (.exit id') t s ds) (.ok .normal t s ds) (Nat.beq id id')) (.ok .ret t s ds) x) (exec e n a1 t s rd ds):R)=.ok x t' s' ds' from h)
   refine wpIn_block (wpIn_mono (ih N c1 a1 γ t s w a rd b ds x1 t1 s1 ds1 γ0 s0 w0 m h1 hN ht hs hrd hd hst hr).1 ?_)
   rintro ex a1' w1 ⟨rfl,q1,γ1,q2,q3,q4,q5⟩
   cases x1 with
   | normal=>cases hk;exact ⟨rfl,q1,γ1,q2,q3,q4,q5⟩
   | ret=>cases hk;exact ⟨rfl,q1,γ1,q2,q3,q4,q5⟩
   | exit id'=>
    show if id'=id then _ else _
    cases hb:Nat.beq id id' with
    | true=>
     have hid:=Nat.eq_of_beq_eq_true hb
     change (Bool.rec (.ok (.exit id') t1 s1 ds1) (.ok .normal t1 s1 ds1) (Nat.beq id id'):R)=_ at hk
     rw [hb] at hk;cases hk
     rw [if_pos hid.symm];exact ⟨rfl,q1,γ1,q2,q3,q4,q5⟩
    | false=>
     have hid:=Nat.ne_of_beq_eq_false hb
     change (Bool.rec (.ok (.exit id') t1 s1 ds1) (.ok .normal t1 s1 ds1) (Nat.beq id id'):R)=_ at hk
     rw [hb] at hk;cases hk
     rw [if_neg (fun e=>hid e.symm)];exact ⟨rfl,q1,γ1,q2,q3,q4,q5⟩
  | loop c1=>
   have key:Code.roundsIn (fen b) m P c1 (Post P γ0 s0 w0 N x t' s' ds') (n+1) a w:=by
    obtain ⟨a1,h1,rfl⟩:=map_some (show (comp P N c1).map AC.loop=some ac from hc)
    obtain ⟨x1,t1,s1,ds1,hr,hk⟩:=RR_ok (show (R.rec .fail (fun x t s ds=>Ex.rec (exec e n (.loop a1) t s rd ds) (fun id=>.ok (.exit id) t s ds) (.ok .ret t s ds) x) (exec e n a1 t s rd ds):R)=.ok x t' s' ds' from h)
    rw [roundsIn_succ]
    refine wpIn_mono (ih N c1 a1 γ t s w a rd b ds x1 t1 s1 ds1 γ0 s0 w0 m h1 hN ht hs hrd hd hst hr).1 (then_of hk ?_)
    intro γ1 a1' w1 hy q1 q2 q3 q4 q5
    exact (ih N (.loop c1) (.loop a1) γ1 t1 s1 w1 a1' rd b ds1 x t' s' ds' γ0 s0 w0 m hc q1 q2 q3 hrd q4 q5 hy).2 c1 rfl
   exact ⟨wpIn_loop_rounds _ key,fun c' hc'=>by cases hc';exact key⟩
  | rangeFunc f ps asg body=>
   refine ⟨?_,fun c' hc'=>by cases hc'⟩
   simp only [comp] at hc
   split at hc
   ·rename_i y a1 a2 h0 h1 h2
    split at hc
    ·rename_i hps
     cases hc
     refine rng_sound ih hE h0 h1 h2 (fun p hp=>?_) hN ht hs (hrd.mono hst.le) hd hst h
     have:=List.all_eq_true.1 hps p hp
     simpa using this
    ·cases hc
   ·cases hc
  | _=>cases hc;cases h
end
end Go.AM
namespace Go.AM
section
variable {A:St->St->Prop}{t:AT}
def Pu (A:St->St->Prop) (k:St->RV):Prop:=∀ s v s1,k s=.ok v s1->s1=s∧∀ s2,A s s2->k s2=.ok v s2
theorem Pu.fail:Pu A (fun _=>.fail):=fun s v s1 h=>by cases h
theorem Pu.ok (v:AV):Pu A (fun s=>.ok v s):=fun s u s1 h=>by cases h;exact ⟨rfl,fun _ _=>rfl⟩
theorem Pu.ret (x:OV):Pu A (fun s=>ret x s):=fun s u s1 h=>by
 cases x with
 | none=>cases h
 | some v=>cases h;exact ⟨rfl,fun _ _=>rfl⟩
theorem Pu.retO (x:Option AV):Pu A (fun s=>retO x s):=fun s u s1 h=>by
 cases x with
 | none=>cases h
 | some v=>cases h;exact ⟨rfl,fun _ _=>rfl⟩
variable {k:St->RV}
theorem Pu.gd (b:Bool) (h:Pu A k):Pu A (fun s=>gd b (k s)):=by cases b with|true=>exact h|false=>exact .fail
variable {l:St->RV}
theorem Pu.bool (b:Bool) (h:Pu A k) (h':Pu A l):Pu A (fun s=>Bool.rec (k s) (l s) b):=by cases b with|true=>exact h'|false=>exact h
theorem Pu.wth (x:AO) {k:AV->St->RV}(h:∀ a,Pu A (k a)):Pu A (fun s=>wth x t (fun a=>k a s)):=by
 unfold AM.wth
 cases ev x t with
 | none=>exact .fail
 | some v=>exact h v
theorem Pu.opt {α:Type}(x:Option α) {k:α->St->RV}(h':Pu A l) (h:∀ a,Pu A (k a)):Pu A (fun s=>Option.rec (l s) (fun a=>k a s) x):=by cases x with|none=>exact h'|some a=>exact h a
theorem Pu.pr (x:PR) {k:Nat->Nat->St->RV}{kf:List AV->St->RV}(h:∀ a b,Pu A (k a b)) (hf:∀ l,Pu A (kf l)):Pu A (fun s=>PR.rec .fail (fun a b=>k a b s) (fun l=>kf l s) x):=by cases x with|no=>exact .fail|ptr a b=>exact h a b|fp l=>exact hf l
theorem Pu.ir (x:IR) {k:IntKind->Int->St->RV}(h:∀ a b,Pu A (k a b)):Pu A (fun s=>IR.rec .fail (fun a b=>k a b s) x):=by cases x with|no=>exact .fail|int a b=>exact h a b
theorem Pu.br (x:BR) (h:Pu A k) (h':Pu A l):Pu A (fun s=>BR.rec .fail (k s) (l s) x):=by cases x with|no=>exact .fail|tt=>exact h|ff=>exact h'
theorem Pu.sr (x:SR) {k:Nat->Nat->Nat->Option Nat->St->RV}{m:St->RV}{kf:Nat->Option Nat->List AV->St->RV}(h:∀ a b c d,Pu A (k a b c d)) (h1:Pu A l) (h2:Pu A m) (hf:∀ a b c,Pu A (kf a b c)):Pu A (fun s=>SR.rec .fail (fun a b c d=>k a b c d s) (l s) (m s) (fun a b c=>kf a b c s) x):=by
 cases x with|no=>exact .fail|sl a b c d=>exact h a b c d|nils=>exact h1|es=>exact h2|fz a b c=>exact hf a b c
theorem Pu.lr (x:LR) {k:List AV->St->RV}(h:∀ a,Pu A (k a)):Pu A (fun s=>LR.rec .fail (fun a=>k a s) x):=by cases x with|no=>exact .fail|l a=>exact h a
theorem Pu.xr (x:XR) {k:Nat->AV->St->RV}(h:∀ a b,Pu A (k a b)):Pu A (fun s=>XR.rec .fail (fun a b=>k a b s) x):=by cases x with|no=>exact .fail|x a b=>exact h a b
theorem Pu.nr (x:NR) {k:Nat->St->RV}(h:∀ a,Pu A (k a)):Pu A (fun s=>NR.rec .fail (fun a=>k a s) x):=by cases x with|no=>exact .fail|n a=>exact h a
theorem Pu.mr (x:MR) {k:Nat->St->RV}(h:∀ a,Pu A (k a)) (h':Pu A l):Pu A (fun s=>MR.rec .fail (fun a=>k a s) (l s) x):=by cases x with|no=>exact .fail|m a=>exact h a|nil=>exact h'
theorem Pu.lst {α:Type}(x:List α) {k:α->List α->St->RV}(h:∀ a b,Pu A (k a b)):Pu A (fun s=>List.rec .fail (fun a b _=>k a b s) x):=by cases x with|nil=>exact .fail|cons a b=>exact h a b
theorem slc1_Pu (es r o n:Nat) (cap:Option Nat) (l h:Nat):Pu A (slc1 es r o n cap l h):=
 Pu.opt cap (Pu.gd _ (Pu.bool _ (.ok _) (.ok _))) (fun c=>Pu.gd _ (.ok _))
theorem slc2_Pu (es r o n:Nat) (cap:Option Nat) (l h m:Nat):Pu A (slc2 es r o n cap l h m):=Pu.gd _ (.ok _)
theorem slcF_Pu (es n:Nat) (cap:Option Nat) (cs:List AV) (l h:Nat):Pu A (slcF es n cap cs l h):=Pu.gd _ (Pu.bool _ (.ok _) (Pu.opt _ .fail fun _=>.ok _))
theorem slcF3_Pu (es n:Nat) (cs:List AV) (l h m:Nat):Pu A (slcF3 es n cs l h m):=Pu.gd _ (Pu.bool _ (.ok _) (Pu.opt _ .fail fun _=>.ok _))
def isPure (p:AOp):Bool:=!isEff p && !isLoad p && !isMake p
variable {e:Env}{rec:Rec}{p:AOp}
theorem pure_Pu (hp:isPure p=true):Pu A (opA p e rec t):=by
 cases p with
 | mv x=>exact Pu.wth x fun a=>.ok a
 | pick c a b=>exact Pu.wth c fun _=>Pu.br _ (.ret _) (.ret _)
 | build z ps=>exact Pu.opt _ .fail fun cs=>.ok _
 | nilck x=>exact Pu.wth x fun a=>Pu.bool _ (.ok _) .fail
 | bin op x y=>exact Pu.wth x fun a=>Pu.wth y fun b=>.ret _
 | eqb kd neg x y=>exact Pu.wth x fun a=>Pu.wth y fun b=>Pu.opt _ .fail fun c=>.ok _
 | eqf ks neg x y=>exact Pu.wth x fun a=>Pu.wth y fun b=>Pu.lr _ fun a=>Pu.lr _ fun b=>Pu.opt _ .fail fun c=>.ok _
 | un op x=>exact Pu.wth x fun a=>.ret _
 | cvi k x=>exact Pu.wth x fun a=>Pu.ir _ fun _ n=>.ok _
 | mkfn f a b=>exact Pu.opt _ .fail fun x=>Pu.opt _ .fail fun y=>.ok _
 | slc es x lo hi mx=>
  exact Pu.wth x fun a=>Pu.sr _
   (fun r o n cap=>Pu.nr _ fun l=>Pu.nr _ fun h=>Pu.opt mx (slc1_Pu _ _ _ _ _ _ _) fun m=>Pu.nr _ fun m=>slc2_Pu _ _ _ _ _ _ _ _)
   (Pu.nr _ fun l=>Pu.nr _ fun h=>Pu.nr _ fun m=>Pu.gd _ (.ok _)) (Pu.nr _ fun l=>Pu.nr _ fun h=>Pu.nr _ fun m=>Pu.gd _ (.ok _))
   (fun n cap cs=>Pu.nr _ fun l=>Pu.nr _ fun h=>Pu.opt mx (slcF_Pu _ _ _ _ _ _) fun m=>Pu.nr _ fun m=>slcF3_Pu _ _ _ _ _ _)
 | sla es n x lo hi mx=>exact Pu.wth x fun a=>Pu.pr _ (fun r o=>Pu.nr _ fun l=>Pu.nr _ fun h=>Pu.nr _ fun m=>Pu.gd _ (.ok _)) (fun _=>.fail)
 | fa off x=>exact Pu.wth x fun a=>Pu.pr _ (fun r o=>.ok _) (fun _=>.ok _)
 | fld1 off x=>exact Pu.wth x fun a=>Pu.lr _ fun l=>.retO _
 | fldn off n x=>exact Pu.wth x fun a=>Pu.lr _ fun l=>Pu.opt _ .fail fun cs=>.ok _
 | ixs es x i=>exact Pu.wth x fun a=>Pu.wth i fun i=>Pu.nr _ fun i=>Pu.sr _ (fun r o n _=>Pu.gd _ (.ok _)) .fail .fail (fun _ _ _=>Pu.gd _ (.ok _))
 | ixa n es x i=>exact Pu.wth x fun a=>Pu.wth i fun i=>Pu.nr _ fun i=>Pu.pr _ (fun r o=>Pu.gd _ (.ok _)) (fun _=>Pu.gd _ (.ok _))
 | ixv n x i=>exact Pu.wth x fun a=>Pu.wth i fun i=>Pu.nr _ fun i=>Pu.lr _ fun l=>Pu.gd _ (.retO _)
 | ixvn n es x i=>exact Pu.wth x fun a=>Pu.wth i fun i=>Pu.nr _ fun i=>Pu.lr _ fun l=>Pu.gd _ (Pu.opt _ .fail fun cs=>.ok _)
 | mki ty x=>exact Pu.wth x fun a=>.ok _
 | tas ty z x=>exact Pu.wth x fun a=>Pu.xr _ fun _ _=>.ok _
 | ext x i=>exact Pu.wth x fun a=>Pu.lr _ fun l=>.retO _
 | len x=>exact Pu.wth x fun a=>Pu.sr _ (fun _ _ n _=>.ok _) (.ok _) (.ok _) (fun _ _ _=>.ok _)
 | alen n=>exact .ok _
 | mn m xs=>exact Pu.opt _ .fail fun l=>Pu.lst l fun x l=>.ret _
 | capo x=>exact Pu.wth x fun a=>Pu.sr _ (fun _ _ _ cap=>Pu.opt cap .fail fun c=>.ok _) .fail .fail (fun _ cap _=>Pu.opt cap .fail fun c=>.ok _)
 | bad=>exact .fail
 | _=>cases hp
def Grows (s s2:St):Prop:=∀ r x,s.get r=some x->s2.get r=some x
theorem rowAt_grows {s s2:St}(h:Grows s s2) {r e:Nat}{cs:List AV}(hr:rowAt r s=.row e cs):rowAt r s2=.row e cs:=by
 have:=h r _ (rowAt_some hr)
 unfold rowAt;rw [this];rfl
theorem Pu.load1 (r o:Nat):Pu Grows (fun s=>AM.retO (AM.load1 r o s) s):=by
 intro s v s1 h
 obtain ⟨h1,h2⟩:=retO_ok h
 subst h2
 refine ⟨rfl,fun s2 hg=>?_⟩
 have hl2:AM.load1 r o s2=some v:=by
  unfold AM.load1 at h1 ⊢
  cases hr:rowAt r s with
  | no=>rw [hr] at h1;cases h1
  | row e cs=>rw [hr] at h1;rw [rowAt_grows hg hr];exact h1
 show AM.retO (AM.load1 r o s2) s2=_
 rw [hl2];rfl
theorem Pu.load (r o n:Nat) {k:List AV->St->RV}(hk:∀ cs,Pu Grows (k cs)):Pu Grows (fun s=>Option.rec .fail (fun cs=>k cs s) (AM.load r o n s)):=by
 intro s v s1 h
 obtain ⟨cs,hl,h⟩:=opt_ok h
 obtain ⟨e1,hk'⟩:=hk cs s v s1 h
 subst e1
 refine ⟨rfl,fun s2 hg=>?_⟩
 have hl2:AM.load r o n s2=some cs:=by
  unfold AM.load at hl ⊢
  cases hr:rowAt r s1 with
  | no=>rw [hr] at hl;cases hl
  | row e rs=>rw [hr] at hl;rw [rowAt_grows hg hr];exact hl
 show (Option.rec .fail (fun cs=>k cs s2) (AM.load r o n s2):RV)=_
 rw [hl2];exact hk' s2 hg
theorem Pu.mapAt (r:Nat) {k:List (AV×AV×Nat)×Nat->St->RV}(hk:∀ m,Pu Grows (k m)):Pu Grows (fun s=>Option.rec .fail (fun m=>k m s) (AM.mapAt r s)):=by
 intro s v s1 h
 obtain ⟨m,hl,h⟩:=opt_ok h
 obtain ⟨e1,hk'⟩:=hk m s v s1 h
 subst e1
 refine ⟨rfl,fun s2 hg=>?_⟩
 have hl2:AM.mapAt r s2=some m:=by
  obtain ⟨es,c⟩:=m
  have:=hg r _ (mapAt_some hl)
  unfold AM.mapAt;rw [this]
 show (Option.rec .fail (fun m=>k m s2) (AM.mapAt r s2):RV)=_
 rw [hl2];exact hk' s2 hg
theorem mgetR_Pu (z:AV) (ok:Bool) (f:Option AV):Pu A (mgetR z ok f):=Pu.opt f (.ok _) fun v=>.ok _
theorem load_Pu (hp:isLoad p=true):Pu Grows (opA p e rec t):=by
 cases p with
 | ld1 x=>exact Pu.wth x fun a=>Pu.pr _ (fun r o=>Pu.load1 r o) (fun _=>.retO _)
 | ldn n x=>exact Pu.wth x fun a=>Pu.pr _ (fun r o=>Pu.load r o n fun cs=>.ok _) (fun _=>Pu.opt _ .fail fun _=>.ok _)
 | b2s x=>exact Pu.wth x fun a=>Pu.sr _ (fun r o n _=>Pu.load r o n fun cs=>Pu.opt _ .fail fun l=>.ok _) (.ok _) (.ok _) (fun _ _ _=>Pu.opt _ .fail fun _=>Pu.opt _ .fail fun _=>.ok _)
 | lenm x=>exact Pu.wth x fun a=>Pu.mr _ (fun r=>Pu.mapAt r fun m=>.ok _) (.ok _)
 | mget z ok m k=>exact Pu.wth m fun m=>Pu.wth k fun k=>Pu.mr _ (fun r=>Pu.mapAt r fun mp=>Pu.opt _ .fail fun f=>mgetR_Pu _ _ _) (mgetR_Pu _ _ _)
 | _=>cases hp
theorem eqNs_eq':∀ {a b:List Nat},eqNs a b=true->a=b:=by
 intro a
 induction a with
 | nil=>intro b h;cases b with|nil=>rfl|cons y b=>cases h
 | cons x a ih=>
  intro b h
  cases b with
  | nil=>cases h
  | cons y b=>
   change (Bool.rec false (eqNs a b) (Nat.beq x y):Bool)=true at h
   cases hb:Nat.beq x y with
   | false=>rw [hb] at h;cases h
   | true=>rw [hb] at h;rw [Nat.eq_of_beq_eq_true hb,ih h]
theorem bool_and {a b:Bool}(h:(Bool.rec false b a:Bool)=true):a=true∧b=true:=by cases a with|false=>cases h|true=>exact ⟨rfl,h⟩
theorem eqI_eq' {a b:Int}(h:eqI a b=true):a=b:=by
 cases a with
 | ofNat a=>cases b with
  | ofNat b=>rw [Nat.eq_of_beq_eq_true (show Nat.beq a b=true from h)]
  | negSucc b=>cases h
 | negSucc a=>cases b with
  | ofNat b=>cases h
  | negSucc b=>rw [Nat.eq_of_beq_eq_true (show Nat.beq a b=true from h)]
theorem eqK_eq' {a b:IntKind}(h:eqK a b=true):a=b:=by cases a <;> cases b <;> first|rfl|cases h
theorem isNilL_eq {α:Type}{l:List α}(h:isNilL l=true):l=[]:=by cases l with|nil=>rfl|cons=>cases h
theorem eqOn_eq {a b:Option Nat}(h:eqOn a b=true):a=b:=by
 cases a with
 | none=>cases b with|none=>rfl|some y=>cases h
 | some x=>cases b with|none=>cases h|some y=>rw [Nat.eq_of_beq_eq_true (show Nat.beq x y=true from h)]
theorem eqNs_refl:∀ a:List Nat,eqNs a a=true
 | []=>rfl
 | x::a=>by show (Bool.rec false (eqNs a a) (Nat.beq x x):Bool)=true;rw [Nat.beq_refl];exact eqNs_refl a
theorem eqI_refl (a:Int):eqI a a=true:=by cases a with|ofNat a=>exact Nat.beq_refl a|negSucc a=>exact Nat.beq_refl a
theorem eqK_refl (a:IntKind):eqK a a=true:=by cases a <;> rfl
theorem eqOn_refl (a:Option Nat):eqOn a a=true:=by cases a with|none=>rfl|some a=>exact Nat.beq_refl a
mutual
theorem eqA_eq:∀ (a:AV) {b:AV},eqA a b=true->a=b
 | .bool x,b,h=>by cases b <;> first|(cases h;done)|skip
                   rename_i y;cases x <;> cases y <;> first|rfl|cases h
 | .int k n,b,h=>by cases b <;> first|(cases h;done)|skip
                    rename_i k' n'
                    obtain ⟨h1,h2⟩:=bool_and (show (Bool.rec false (eqI n n') (eqK k k'):Bool)=true from h)
                    rw [eqK_eq' h1,eqI_eq' h2]
 | .str l,b,h=>by cases b <;> first|(cases h;done)|skip
                  rw [eqNs_eq' h]
 | .ptr r o,b,h=>by cases b <;> first|(cases h;done)|skip
                    obtain ⟨h1,h2⟩:=bool_and h
                    rw [Nat.eq_of_beq_eq_true h1,Nat.eq_of_beq_eq_true h2]
 | .nilp,b,h=>by cases b <;> first|rfl|cases h
 | .sl r o n c,b,h=>by cases b <;> first|(cases h;done)|skip
                       obtain ⟨h1,h⟩:=bool_and h
                       obtain ⟨h2,h⟩:=bool_and h
                       obtain ⟨h3,h4⟩:=bool_and h
                       rw [Nat.eq_of_beq_eq_true h1,Nat.eq_of_beq_eq_true h2,Nat.eq_of_beq_eq_true h3,eqOn_eq h4]
 | .nils,b,h=>by cases b <;> first|rfl|cases h
 | .es,b,h=>by cases b <;> first|rfl|cases h
 | .ez,b,h=>by cases b <;> first|rfl|cases h
 | .map r,b,h=>by cases b <;> first|(cases h;done)|skip
                  rw [Nat.eq_of_beq_eq_true h]
 | .nilm,b,h=>by cases b <;> first|rfl|cases h
 | .fn f x y,b,h=>by cases b <;> first|(cases h;done)|skip
                     rename_i f' x' y'
                     obtain ⟨h1,h⟩:=bool_and (show (Bool.rec false (Bool.rec false (eqAs y y') (eqAs x x')) (Nat.beq f f'):Bool)=true from h)
                     obtain ⟨h2,h3⟩:=bool_and h
                     rw [Nat.eq_of_beq_eq_true h1,eqAs_eq x h2,eqAs_eq y h3]
 | .yld l,b,h=>by cases b <;> first|(cases h;done)|skip
                  rw [Nat.eq_of_beq_eq_true h]
 | .nilf,b,h=>by cases b <;> first|rfl|cases h
 | .iface t v,b,h=>by cases b <;> first|(cases h;done)|skip
                      rename_i t' v'
                      obtain ⟨h1,h2⟩:=bool_and (show (Bool.rec false (eqA v v') (Nat.beq t t'):Bool)=true from h)
                      rw [Nat.eq_of_beq_eq_true h1,eqA_eq v h2]
 | .nili,b,h=>by cases b <;> first|rfl|cases h
 | .agg l,b,h=>by cases b <;> first|(cases h;done)|skip
                  rename_i l';rw [eqAs_eq l (show eqAs l l'=true from h)]
 | .tup l,b,h=>by cases b <;> first|(cases h;done)|skip
                  rename_i l';rw [eqAs_eq l (show eqAs l l'=true from h)]
 | .any,b,h=>by cases b <;> first|rfl|cases h
 | .fz n c l,b,h=>by cases b <;> first|(cases h;done)|skip
                     rename_i n' c' l'
                     obtain ⟨h1,h⟩:=bool_and (show (Bool.rec false (Bool.rec false (eqAs l l') (eqOn c c')) (Nat.beq n n'):Bool)=true from h)
                     obtain ⟨h2,h3⟩:=bool_and h
                     rw [Nat.eq_of_beq_eq_true h1,eqOn_eq h2,eqAs_eq l h3]
 | .fp l,b,h=>by cases b <;> first|(cases h;done)|skip
                 rename_i l';rw [eqAs_eq l (show eqAs l l'=true from h)]
theorem eqAs_eq:∀ (a:List AV) {b:List AV},eqAs a b=true->a=b
 | [],b,h=>(isNilL_eq h).symm
 | x::a,b,h=>by
  cases b with
  | nil=>cases h
  | cons y b=>
   obtain ⟨h1,h2⟩:=bool_and (show (Bool.rec false (eqAs a b) (eqA x y):Bool)=true from h)
   rw [eqA_eq x h1,eqAs_eq a h2]
end
theorem eqV_eq {a b:AV}(h:eqV a b=true):a=b:=eqA_eq a h
mutual
theorem eqA_refl:∀ (a:AV),eqA a a=true
 | .bool x=>by cases x <;> rfl
 | .int k n=>by show (Bool.rec false (eqI n n) (eqK k k):Bool)=true;rw [eqK_refl];exact eqI_refl n
 | .str l=>eqNs_refl l
 | .ptr r o=>by show (Bool.rec false (Nat.beq o o) (Nat.beq r r):Bool)=true;rw [Nat.beq_refl r];exact Nat.beq_refl o
 | .nilp=>rfl
 | .sl r o n c=>by show (Bool.rec false (Bool.rec false (Bool.rec false (eqOn c c) (Nat.beq n n)) (Nat.beq o o)) (Nat.beq r r):Bool)=true;rw [Nat.beq_refl r,Nat.beq_refl o,Nat.beq_refl n];exact eqOn_refl c
 | .nils=>rfl
 | .es=>rfl
 | .ez=>rfl
 | .map r=>Nat.beq_refl r
 | .nilm=>rfl
 | .fn f x y=>by show (Bool.rec false (Bool.rec false (eqAs y y) (eqAs x x)) (Nat.beq f f):Bool)=true;rw [Nat.beq_refl,eqAs_refl x];exact eqAs_refl y
 | .yld l=>Nat.beq_refl l
 | .nilf=>rfl
 | .iface t v=>by show (Bool.rec false (eqA v v) (Nat.beq t t):Bool)=true;rw [Nat.beq_refl];exact eqA_refl v
 | .nili=>rfl
 | .agg l=>eqAs_refl l
 | .tup l=>eqAs_refl l
 | .any=>rfl
 | .fz n c l=>by show (Bool.rec false (Bool.rec false (eqAs l l) (eqOn c c)) (Nat.beq n n):Bool)=true;rw [Nat.beq_refl,eqOn_refl];exact eqAs_refl l
 | .fp l=>eqAs_refl l
theorem eqAs_refl:∀ (a:List AV),eqAs a a=true
 | []=>rfl
 | x::a=>by show (Bool.rec false (eqAs a a) (eqA x x):Bool)=true;rw [eqA_refl x];exact eqAs_refl a
end
end
end Go.AM
namespace Go.AM
section
variable {P:Program}{N:Nat}
variable {ops:Array Oper}
theorem compOpers_get:∀ {l:List Oper}{cs:List AOper},compOpers P N ops l=some cs->cs.length=l.length∧∀ (i:Nat) (o:Oper),l[i]?=some o->
 ∃ d p g,cs[i]?=some (.mk d p g)∧compDst N o.dst=some d∧compOp P o=some p∧compGuard ops N o.guard=some g:=by
 intro l
 induction l with
 | nil=>intro cs h;cases h;exact ⟨rfl,fun i o h=>by simp at h⟩
 | cons o l ih=>
  intro cs h
  simp only [compOpers] at h
  split at h
  ·rename_i d p g r h1 h2 h3 h4
   cases h
   obtain ⟨hl,hr⟩:=ih h4
   refine ⟨by simp [hl],fun i o' hi=>?_⟩
   cases i with
   | zero=>simp at hi;subst hi;exact ⟨d,p,g,by simp,h1,h2,h3⟩
   | succ i=>simpa using hr i o' (by simpa using hi)
  ·cases h
variable {cs:List AOper}
theorem mkItems_get:∀ {its:List It}{al:List AOper},mkItems cs its=some al->al.length=its.length∧∀ (q:Nat) (x:It),its[q]?=some x->∃ a,al[q]?=some a∧mkItem cs x=some a:=by
 intro its
 induction its with
 | nil=>intro al h;cases h;exact ⟨rfl,fun q x h=>by simp at h⟩
 | cons y its ih=>
  intro al h
  simp only [mkItems] at h
  split at h
  ·rename_i a r h1 h2
   cases h
   obtain ⟨hl,hr⟩:=ih h2
   refine ⟨by simp [hl],fun q x hq=>?_⟩
   cases q with
   | zero=>simp at hq;subst hq;exact ⟨a,by simp,h1⟩
   | succ q=>simpa using hr q x (by simpa using hq)
  ·cases h
theorem befores_app:∀ (l:List Oper) (acc:List Nat),∃ r,befores l acc=acc++r∧r.length=l.length:=by
 intro l
 induction l with
 | nil=>intro acc;exact ⟨[],by simp [befores],rfl⟩
 | cons o l ih=>
  intro acc
  obtain ⟨r,h1,h2⟩:=ih (acc++[edgeBits acc o.after.toList])
  exact ⟨edgeBits acc o.after.toList::r,by simp [befores,h1],by simp [h2]⟩
theorem befores_get:∀ (l:List Oper) (acc:List Nat) (i:Nat) (o:Oper),l[i]?=some o->∃ pre,pre.length=acc.length+i∧(∀ k,k<acc.length+i->(befores l acc).getD k 0=pre.getD k 0)∧(befores l acc).getD (acc.length+i) 0=edgeBits pre o.after.toList:=by
 intro l
 induction l with
 | nil=>intro acc i o h;simp at h
 | cons o0 l ih=>
  intro acc i o h
  cases i with
  | zero=>
   simp at h;subst h
   obtain ⟨r,h1,h2⟩:=befores_app l (acc++[edgeBits acc o0.after.toList])
   refine ⟨acc,by simp,?_,?_⟩
   ·intro k hk
    simp only [befores,h1]
    rw [List.append_assoc,List.getD_eq_getElem?_getD,List.getElem?_append_left (by omega),List.getD_eq_getElem?_getD]
   ·simp only [befores,h1]
    rw [List.append_assoc,List.getD_eq_getElem?_getD,List.getElem?_append_right (by omega)]
    simp
  | succ i=>
   obtain ⟨pre,h1,h2,h3⟩:=ih (acc++[edgeBits acc o0.after.toList]) i o (by simpa using h)
   simp only [List.length_append,List.length_cons,List.length_nil] at h1 h2 h3
   refine ⟨pre,by omega,fun k hk=>?_,?_⟩
   ·simp only [befores];exact h2 k (by omega)
   ·simp only [befores];rw [show acc.length+(i+1)=acc.length+1+i by omega];exact h3
variable {j:Nat}
theorem edgeBits_bit {acc:List Nat}:∀ {l:List Edge},(edgeBits acc l).testBit j=true->∃ e ∈ l,Region.binds .any e=true∧(j=e.on∨(acc.getD e.on 0).testBit j=true):=by
 intro l
 induction l with
 | nil=>intro h;simp [edgeBits] at h
 | cons e l ih=>
  intro h
  simp only [edgeBits] at h
  split at h
  ·rename_i hb
   rw [Nat.testBit_or,Nat.testBit_or,Bool.or_eq_true,Bool.or_eq_true] at h
   rcases h with (h|h)|h
   ·rw [Nat.testBit_two_pow] at h
    exact ⟨e,by simp,hb,.inl (of_decide_eq_true h).symm⟩
   ·exact ⟨e,by simp,hb,.inr h⟩
   ·obtain ⟨e',h1,h2,h3⟩:=ih h;exact ⟨e',by simp [h1],h2,h3⟩
  ·obtain ⟨e',h1,h2,h3⟩:=ih h;exact ⟨e',by simp [h1],h2,h3⟩
variable {i:Nat}
theorem before_step {o:Oper}(ho:ops[i]?=some o) (h:((befores ops.toList []).getD i 0).testBit j=true):
 ∃ e ∈ o.after.toList,Region.binds .any e=true∧(j=e.on∨(e.on<i∧((befores ops.toList []).getD e.on 0).testBit j=true)):=by
 obtain ⟨pre,h1,h2,h3⟩:=befores_get ops.toList [] i o (by simpa using ho)
 simp only [List.length_nil,Nat.zero_add] at h1 h2 h3
 rw [h3] at h
 obtain ⟨e,he,hb,hj⟩:=edgeBits_bit h
 refine ⟨e,he,hb,?_⟩
 rcases hj with hj|hj
 ·exact .inl hj
 ·by_cases hlt:e.on<i
  ·rw [← h2 e.on hlt] at hj;exact .inr ⟨hlt,hj⟩
  ·rw [List.getD_eq_getElem?_getD,List.getElem?_eq_none (by omega)] at hj;simp at hj
theorem backOk_get:∀ {l:List Oper}{k:Nat},backOk l k=true->∀ (i:Nat) (o:Oper),l[i]?=some o->∀ e ∈ o.after.toList,Region.binds .any e=true->e.on<k+i:=by
 intro l
 induction l with
 | nil=>intro k _ i o h;simp at h
 | cons o0 l ih=>
  intro k h i o ho e he hb
  simp only [backOk,Bool.and_eq_true] at h
  cases i with
  | zero=>
   simp at ho;subst ho
   have:=List.all_eq_true.1 h.1 e he
   simpa [hb] using this
  | succ i=>have:=ih h.2 i o (by simpa using ho) e he hb;omega
theorem before_lt (hback:backOk ops.toList 0=true):∀ (i j:Nat),i<ops.size->((befores ops.toList []).getD i 0).testBit j=true->j<i:=by
 intro i
 induction i using Nat.strongRecOn with
 | _ i ih=>
  intro j hi h
  obtain ⟨o,ho⟩:∃ o,ops[i]?=some o:=⟨ops[i],by simp [hi]⟩
  obtain ⟨e,he,hb,hj⟩:=before_step ho h
  have hlt:=backOk_get hback i o (by simpa using ho) e he hb
  rcases hj with rfl|⟨h1,h2⟩
  ·omega
  ·have:=ih e.on (by omega) j (by omega) h2;omega
def Closed (ops:Array Oper) (D:Nat->Prop):Prop:=∀ i o,ops[i]?=some o->D i->∀ e ∈ o.after.toList,Region.binds .any e=true->D e.on
variable {D:Nat->Prop}
theorem closed_before (hback:backOk ops.toList 0=true) (hD:Closed ops D):∀ (i:Nat) (o:Oper),ops[i]?=some o->(∀ e ∈ o.after.toList,Region.binds .any e=true->D e.on)->∀ j,((befores ops.toList []).getD i 0).testBit j=true->D j:=by
 intro i
 induction i using Nat.strongRecOn with
 | _ i ih=>
  intro o ho hr j h
  obtain ⟨e,he,hb,hj⟩:=before_step ho h
  have hde:=hr e he hb
  rcases hj with rfl|⟨h1,h2⟩
  ·exact hde
  ·have hi:i<ops.size:=(Array.getElem?_eq_some_iff.1 ho).1
   have hlt:e.on<ops.size:=by omega
   obtain ⟨o',ho'⟩:∃ o',ops[e.on]?=some o':=⟨ops[e.on],by simp [hlt]⟩
   exact ih e.on h1 o' ho' (hD e.on o' ho' hde) j h2
theorem closed_of (hback:backOk ops.toList 0=true) (hD:Closed ops D) (hi:i<ops.size) (hd:D i) (h:((befores ops.toList []).getD i 0).testBit j=true):D j:=by
 obtain ⟨o,ho⟩:∃ o,ops[i]?=some o:=⟨ops[i],by simp [hi]⟩
 exact closed_before hback hD i o ho (hD i o ho hd) j h
variable {bf:List Nat}
theorem pairsOk_get {ds:List (Option Nat)}{rs:List (List Nat)}:∀ {its:List It},pairsOk bf cs ds rs its=true->
 (∀ (q:Nat) j,its[q]?=some (.op j)->selfOk ds rs j=true)∧∀ (q' q:Nat) j i,q'<q->its[q']?=some (.op j)->its[q]?=some (.op i)->pairOk bf cs ds rs j i=true:=by
 intro its
 induction its with
 | nil=>intro _;exact ⟨fun q j h=>by simp at h,fun q' q j i _ h=>by simp at h⟩
 | cons x its ih=>
  intro h
  cases x with
  | chk k=>
   obtain ⟨h1,h2⟩:=ih h
   refine ⟨fun q j hq=>?_,fun q' q j i hlt hq' hq=>?_⟩
   ·cases q with
    | zero=>simp at hq
    | succ q=>exact h1 q j (by simpa using hq)
   ·cases q' with
    | zero=>simp at hq'
    | succ q'=>
     cases q with
     | zero=>omega
     | succ q=>exact h2 q' q j i (by omega) (by simpa using hq') (by simpa using hq)
  | op k=>
   simp only [pairsOk,Bool.and_eq_true] at h
   obtain ⟨h1,h2⟩:=ih h.2
   refine ⟨fun q j hq=>?_,fun q' q j i hlt hq' hq=>?_⟩
   ·cases q with
    | zero=>simp at hq;subst hq;exact h.1.1
    | succ q=>exact h1 q j (by simpa using hq)
   ·cases q with
    | zero=>omega
    | succ q=>
     cases q' with
     | zero=>
      simp at hq';subst hq'
      exact List.all_eq_true.1 h.1.2 (.op i) (List.mem_of_getElem? (by simpa using hq))
     | succ q'=>exact h2 q' q j i (by omega) (by simpa using hq') (by simpa using hq)
theorem hasOp_get:∀ {its:List It},hasOp i its=true->∃ q:Nat,its[q]?=some (.op i):=by
 intro its
 induction its with
 | nil=>intro h;cases h
 | cons x its ih=>
  intro h
  cases x with
  | op j=>
   simp only [hasOp,Bool.or_eq_true] at h
   rcases h with h|h
   ·exact ⟨0,by simp at h;simp [h]⟩
   ·obtain ⟨q,hq⟩:=ih h;exact ⟨q+1,by simpa using hq⟩
  | chk j=>obtain ⟨q,hq⟩:=ih h;exact ⟨q+1,by simpa using hq⟩
theorem segHas_get:∀ {l:List It},segHas cs i l=true->∃ c:Nat,l[c]?=some (.chk i)∧∀ k j,k<c->l[k]?=some (.op j)->effAt cs j=false:=by
 intro l
 induction l with
 | nil=>intro h;cases h
 | cons x l ih=>
  intro h
  cases x with
  | chk j=>
   simp only [segHas,Bool.or_eq_true] at h
   rcases h with h|h
   ·exact ⟨0,by simp at h;simp [h],fun k j hk=>by omega⟩
   ·obtain ⟨c,h1,h2⟩:=ih h
    refine ⟨c+1,by simpa using h1,fun k j' hk hj=>?_⟩
    cases k with
    | zero=>simp at hj
    | succ k=>exact h2 k j' (by omega) (by simpa using hj)
  | op j=>
   simp only [segHas,Bool.and_eq_true] at h
   obtain ⟨c,h1,h2⟩:=ih h.2
   refine ⟨c+1,by simpa using h1,fun k j' hk hj=>?_⟩
   cases k with
   | zero=>simp at hj;subst hj;simpa [effAt] using h.1
   | succ k=>exact h2 k j' (by omega) (by simpa using hj)
theorem chksOf_get:∀ {l:List It},chksOf bf cs i l=true->∀ (q j:Nat),l[q]?=some (.op j)->effAt cs j=true->(bf.getD j 0).testBit i=false->∃ c:Nat,q<c∧l[c]?=some (.chk i)∧∀ k j',q<k->k<c->l[k]?=some (.op j')->effAt cs j'=false:=by
 intro l
 induction l with
 | nil=>intro _ q j h;simp at h
 | cons x l ih=>
  intro h q j hq he hb
  cases x with
  | chk k=>
   cases q with
   | zero=>simp at hq
   | succ q=>
    obtain ⟨c,h1,h2,h3⟩:=ih h q j (by simpa using hq) he hb
    refine ⟨c+1,by omega,by simpa using h2,fun k j' hk hk' hj=>?_⟩
    cases k with
    | zero=>omega
    | succ k=>exact h3 k j' (by omega) (by omega) (by simpa using hj)
  | op k=>
   simp only [chksOf,Bool.and_eq_true] at h
   cases q with
   | zero=>
    simp at hq;subst hq
    have h1:(!effAt cs k || (bf.getD k 0).testBit i || segHas cs i l)=true:=h.1
    rw [he,hb] at h1
    obtain ⟨c,c1,c2⟩:=segHas_get (by simpa using h1)
    refine ⟨c+1,by omega,by simpa using c1,fun m j' hm hm' hj=>?_⟩
    cases m with
    | zero=>omega
    | succ m=>exact c2 m j' (by omega) (by simpa using hj)
   | succ q=>
    obtain ⟨c,h1,h2,h3⟩:=ih h.2 q j (by simpa using hq) he hb
    refine ⟨c+1,by omega,by simpa using h2,fun k j' hk hk' hj=>?_⟩
    cases k with
    | zero=>omega
    | succ k=>exact h3 k j' (by omega) (by omega) (by simpa using hj)
theorem loadsOk_get:∀ {its:List It},loadsOk bf cs its=true->∀ (q i:Nat),its[q]?=some (.op i)->loadAt cs i=true->chksOf bf cs i (its.drop (q+1))=true:=by
 intro its
 induction its with
 | nil=>intro _ q i h;simp at h
 | cons x its ih=>
  intro h q i hq hl
  cases x with
  | chk k=>
   cases q with
   | zero=>simp at hq
   | succ q=>simpa using ih h q i (by simpa using hq) hl
  | op k=>
   simp only [loadsOk,Bool.and_eq_true] at h
   cases q with
   | zero=>
    simp at hq;subst hq
    have h1:=h.1
    unfold loadAt at hl
    cases hc:cs[k]? with
    | none=>rw [hc] at hl;cases hl
    | some c=>rw [hc] at hl h1;simp only at hl h1;rw [hl] at h1;simpa using h1
   | succ q=>simpa using ih h.2 q i (by simpa using hq) hl
end
end Go.AM
namespace Go.AM
structure Plan (P:Program) (N:Nat) (ops:Array Oper) (cs:List AOper) (its:List It) (al:List AOper):Prop where
 cs_get:∀ (i:Nat) (o:Oper),ops[i]?=some o->∃ d p g,cs[i]?=some (AOper.mk d p g)∧compDst N o.dst=some d∧compOp P o=some p∧compGuard ops N o.guard=some g
 back:backOk ops.toList 0=true
 has:∀ i,i<ops.size->∃ q:Nat,its[q]?=some (.op i)
 lt:∀ (q i:Nat),its[q]?=some (.op i)->i<ops.size
 reads:∀ (q i j:Nat) (oi oj:Oper) (x:Nat),its[q]?=some (.chk i)->ops[i]?=some oi->ops[j]?=some oj->oj.dst=some x->x ∈ slotsR ops oi->((befores ops.toList []).getD i 0).testBit j=true
 self:∀ (q i:Nat) (o:Oper) (x:Nat),its[q]?=some (.op i)->ops[i]?=some o->o.dst=some x->x ∉ slotsR ops o
 ne:∀ (q' q j i:Nat),q'<q->its[q']?=some (.op j)->its[q]?=some (.op i)->i≠j
 eff:∀ (q' q j i:Nat),q'<q->its[q']?=some (.op j)->its[q]?=some (.op i)->effAt cs j=true->((befores ops.toList []).getD i 0).testBit j=true
 dst:∀ (q' q j i:Nat) (oj oi:Oper) (x:Nat),q'<q->its[q']?=some (.op j)->its[q]?=some (.op i)->ops[j]?=some oj->ops[i]?=some oi->oj.dst=some x->oi.dst≠some x
 rd1:∀ (q' q j i:Nat) (oj oi:Oper) (x:Nat),q'<q->its[q']?=some (.op j)->its[q]?=some (.op i)->ops[j]?=some oj->ops[i]?=some oi->oj.dst=some x->x ∈ slotsR ops oi->((befores ops.toList []).getD i 0).testBit j=true
 rd2:∀ (q' q j i:Nat) (oj oi:Oper) (x:Nat),q'<q->its[q']?=some (.op j)->its[q]?=some (.op i)->ops[j]?=some oj->ops[i]?=some oi->oi.dst=some x->x ∈ slotsR ops oj->((befores ops.toList []).getD i 0).testBit j=true
 loads:∀ (q i:Nat),its[q]?=some (.op i)->loadAt cs i=true->chksOf (befores ops.toList []) cs i (its.drop (q+1))=true
 al_len:al.length=its.length
 al_get:∀ (q:Nat) (x:It),its[q]?=some x->∃ a,al[q]?=some a∧mkItem cs x=some a
section
variable {P:Program}{N:Nat}{ops:Array Oper}{cs:List AOper}{its:List It}{al:List AOper}
variable {i:Nat}{o:Oper}
theorem ds_get (h:ops[i]?=some o):(ops.toList.map (·.dst)).getD i none=o.dst:=by
 rw [List.getD_eq_getElem?_getD,List.getElem?_map];simp [h]
theorem rs_get (h:ops[i]?=some o):(ops.toList.map (slotsR ops)).getD i []=slotsR ops o:=by
 rw [List.getD_eq_getElem?_getD,List.getElem?_map];simp [h]
theorem plan_of (h:compDraw P N ops=some al):∃ cs its,Plan P N ops cs its al:=by
 unfold compDraw at h
 split at h
 ·cases h
 ·rename_i cs hcs
  simp only at h
  split at h
  ·rename_i hok
   refine ⟨cs,orderOf (befores ops.toList []) cs ops.size,?_⟩
   generalize orderOf (befores ops.toList []) cs ops.size=its at h hok
   simp only [drawOk,Bool.and_eq_true] at hok
   obtain ⟨⟨⟨⟨⟨h1,h2⟩,h3⟩,h4⟩,h5⟩,_⟩:=hok
   obtain ⟨c1,c2⟩:=compOpers_get hcs
   obtain ⟨p1,p2⟩:=pairsOk_get h4
   obtain ⟨m1,m2⟩:=mkItems_get h
   have pr:∀ (q' q j i:Nat) (oj oi:Oper),q'<q->its[q']?=some (.op j)->its[q]?=some (.op i)->ops[j]?=some oj->ops[i]?=some oi->
    (i≠j∧(((befores ops.toList []).getD i 0).testBit j=true∨effAt cs j=false))∧
    (∀ x,oj.dst=some x->oi.dst≠some x∧(((befores ops.toList []).getD i 0).testBit j=true∨x ∉ slotsR ops oi))∧
    (∀ x,oi.dst=some x->(((befores ops.toList []).getD i 0).testBit j=true∨x ∉ slotsR ops oj)):=by
    intro q' q j i oj oi hlt hq' hq hj hi
    have hp:=p2 q' q j i hlt hq' hq
    simp only [pairOk,ds_get hj,ds_get hi,rs_get hj,rs_get hi,Bool.and_eq_true] at hp
    obtain ⟨⟨⟨a1,a2⟩,a3⟩,a4⟩:=hp
    refine ⟨⟨by simpa using a1,?_⟩,?_,?_⟩
    ·have a2':(((befores ops.toList []).getD i 0).testBit j || !effAt cs j)=true:=a2
     rw [Bool.or_eq_true] at a2'
     rcases a2' with a|a
     ·exact .inl a
     ·exact .inr (by simpa using a)
    ·intro x hx
     rw [hx] at a3
     simp only [Bool.and_eq_true,Bool.or_eq_true,bne_iff_ne,ne_eq] at a3
     refine ⟨a3.1,a3.2.imp id fun hh=>?_⟩
     simpa using hh
    ·intro x hx
     rw [hx] at a4
     simp only [Bool.or_eq_true] at a4
     refine a4.imp id fun hh=>?_
     simpa using hh
   have getO:∀ i,i<ops.size->∃ o,ops[i]?=some o:=fun i hi=>⟨ops[i],by simp [hi]⟩
   have hlt:∀ (q i:Nat),its[q]?=some (.op i)->i<ops.size:=by
    intro q i hq
    have:=List.all_eq_true.1 h3 _ (List.mem_of_getElem? hq)
    simpa using this
   have ne0:∀ (q' q j i:Nat),q'<q->its[q']?=some (.op j)->its[q]?=some (.op i)->i≠j:=by
    intro q' q j i hl hq' hq
    obtain ⟨oj,hj⟩:=getO j (hlt _ _ hq')
    obtain ⟨oi,hi⟩:=getO i (hlt _ _ hq)
    exact (pr q' q j i oj oi hl hq' hq hj hi).1.1
   refine ⟨fun i o ho=>c2 i o (by simpa using ho),h1,?_,hlt,?_,?_,ne0,?_,?_,?_,?_,fun q i hq hl=>loadsOk_get h5 q i hq hl,m1,m2⟩
   ·intro i hi
    exact hasOp_get (List.all_eq_true.1 h2 i (by simpa using hi))
   ·intro q i j oi oj x hq hi hj hx hm
    have:=List.all_eq_true.1 h3 _ (List.mem_of_getElem? hq)
    simp only [readsOk] at this
    have hjlt:j<ops.size:=(Array.getElem?_eq_some_iff.1 hj).1
    have:=List.all_eq_true.1 this j (by simpa using hjlt)
    rw [ds_get hj,hx,rs_get hi] at this
    simp only [Bool.or_eq_true] at this
    rcases this with h|h
    ·exact h
    ·exact absurd hm (by simpa using h)
   ·intro q i o x hq hi hx
    have:=p1 q i hq
    simp only [selfOk,ds_get hi,hx,rs_get hi] at this
    simpa using this
   ·intro q' q j i hl hq' hq he
    obtain ⟨oj,hj⟩:=getO j (hlt _ _ hq')
    obtain ⟨oi,hi⟩:=getO i (hlt _ _ hq)
    rcases (pr q' q j i oj oi hl hq' hq hj hi).1.2 with a|a
    ·exact a
    ·rw [he] at a;cases a
   ·intro q' q j i oj oi x hl hq' hq hj hi hx
    exact ((pr q' q j i oj oi hl hq' hq hj hi).2.1 x hx).1
   ·intro q' q j i oj oi x hl hq' hq hj hi hx hm
    rcases ((pr q' q j i oj oi hl hq' hq hj hi).2.1 x hx).2 with a|a
    ·exact a
    ·exact absurd hm a
   ·intro q' q j i oj oi x hl hq' hq hj hi hx hm
    rcases (pr q' q j i oj oi hl hq' hq hj hi).2.2 x hx with a|a
    ·exact a
    ·exact absurd hm a
  ·cases h
end
section
variable {e:Env}{rec:Rec}
theorem opsA_one {a:AOper}{l:List AOper}{t t':AT}{s s':St}(h:opsA e rec (a::l) t s=.ok t' s'):∃ t1 s1,opsA e rec [a] t s=.ok t1 s1∧opsA e rec l t1 s1=.ok t' s':=by
 have wnt:∀ (g:Option (Nat×Bool)),wantedA g t=0∨wantedA g t=1∨wantedA g t=2:=by
  intro g
  cases g with
  | none=>exact .inr (.inr rfl)
  | some q=>
   obtain ⟨j,b⟩:=q
   show (Option.rec 0 (fun v=>BR.rec (Bool.rec 1 0 (isAny v)) (Bool.rec 1 2 b) (Bool.rec 2 1 b) (asBool v)) (t.get j):Nat)=0∨(Option.rec 0 (fun v=>BR.rec (Bool.rec 1 0 (isAny v)) (Bool.rec 1 2 b) (Bool.rec 2 1 b) (asBool v)) (t.get j):Nat)=1∨(Option.rec 0 (fun v=>BR.rec (Bool.rec 1 0 (isAny v)) (Bool.rec 1 2 b) (Bool.rec 2 1 b) (asBool v)) (t.get j):Nat)=2
   cases t.get j with
   | none=>exact .inl rfl
   | some v=>
    show (BR.rec (Bool.rec 1 0 (isAny v)) (Bool.rec 1 2 b) (Bool.rec 2 1 b) (asBool v):Nat)=0∨(BR.rec (Bool.rec 1 0 (isAny v)) (Bool.rec 1 2 b) (Bool.rec 2 1 b) (asBool v):Nat)=1∨(BR.rec (Bool.rec 1 0 (isAny v)) (Bool.rec 1 2 b) (Bool.rec 2 1 b) (asBool v):Nat)=2
    cases asBool v <;> cases b <;> cases isAny v <;> simp
 cases a with
 | mk d p g=>
  change (Nat.rec .fail (fun w _=>Nat.rec (opsA e rec l (putT d (.tup []) t) s) (fun _ _=>RV.rec .fail (fun v s'=>opsA e rec l (putT d v t) s') (opA p e rec t s)) w) (wantedA g t):RT)=.ok t' s' at h
  show ∃ t1 s1,(Nat.rec .fail (fun w _=>Nat.rec (RT.ok (putT d (.tup []) t) s) (fun _ _=>RV.rec .fail (fun v s'=>RT.ok (putT d v t) s') (opA p e rec t s)) w) (wantedA g t):RT)=.ok t1 s1∧_
  rcases wnt g with hw|hw|hw
  ·rw [hw] at h;cases h
  ·rw [hw] at h ⊢;exact ⟨_,_,rfl,h⟩
  ·rw [hw] at h ⊢
   change (RV.rec .fail (fun v s'=>opsA e rec l (putT d v t) s') (opA p e rec t s):RT)=.ok t' s' at h
   show ∃ t1 s1,(RV.rec .fail (fun v s'=>RT.ok (putT d v t) s') (opA p e rec t s):RT)=.ok t1 s1∧_
   cases ho:opA p e rec t s with
   | fail=>rw [ho] at h;cases h
   | ok v s1=>rw [ho] at h;exact ⟨_,_,rfl,h⟩
 | chk d p g=>
  change (Nat.rec .fail (fun w _=>Nat.rec (opsA e rec l t s) (fun _ _=>RV.rec .fail (fun v _=>Option.rec .fail (fun v0=>Bool.rec .fail (opsA e rec l t s) (eqV v v0)) (t.get d)) (opA p e rec t s)) w) (wantedA g t):RT)=.ok t' s' at h
  show ∃ t1 s1,(Nat.rec .fail (fun w _=>Nat.rec (RT.ok t s) (fun _ _=>RV.rec .fail (fun v _=>Option.rec .fail (fun v0=>Bool.rec .fail (RT.ok t s) (eqV v v0)) (t.get d)) (opA p e rec t s)) w) (wantedA g t):RT)=.ok t1 s1∧_
  rcases wnt g with hw|hw|hw
  ·rw [hw] at h;cases h
  ·rw [hw] at h ⊢;exact ⟨_,_,rfl,h⟩
  ·rw [hw] at h ⊢
   change (RV.rec .fail (fun v _=>Option.rec .fail (fun v0=>Bool.rec .fail (opsA e rec l t s) (eqV v v0)) (t.get d)) (opA p e rec t s):RT)=.ok t' s' at h
   show ∃ t1 s1,(RV.rec .fail (fun v _=>Option.rec .fail (fun v0=>Bool.rec .fail (RT.ok t s) (eqV v v0)) (t.get d)) (opA p e rec t s):RT)=.ok t1 s1∧_
   cases ho:opA p e rec t s with
   | fail=>rw [ho] at h;cases h
   | ok v s1=>
    rw [ho] at h
    change (Option.rec .fail (fun v0=>Bool.rec .fail (opsA e rec l t s) (eqV v v0)) (t.get d):RT)=.ok t' s' at h
    show ∃ t1 s1,(Option.rec .fail (fun v0=>Bool.rec .fail (RT.ok t s) (eqV v v0)) (t.get d):RT)=.ok t1 s1∧_
    cases hg:t.get d with
    | none=>rw [hg] at h;cases h
    | some v0=>
     rw [hg] at h
     change (Bool.rec .fail (opsA e rec l t s) (eqV v v0):RT)=.ok t' s' at h
     show ∃ t1 s1,(Bool.rec .fail (RT.ok t s) (eqV v v0):RT)=.ok t1 s1∧_
     cases hq:eqV v v0 with
     | false=>rw [hq] at h;cases h
     | true=>rw [hq] at h;exact ⟨_,_,rfl,h⟩
theorem run_states:∀ {al:List AOper}{t t':AT}{s s':St},opsA e rec al t s=.ok t' s'->∃ (tq:Nat->AT) (sq:Nat->St),tq 0=t∧sq 0=s∧tq al.length=t'∧sq al.length=s'∧
 ∀ (q:Nat) (a:AOper),al[q]?=some a->opsA e rec [a] (tq q) (sq q)=.ok (tq (q+1)) (sq (q+1)):=by
 intro al
 induction al with
 | nil=>intro t t' s s' h;cases h;exact ⟨fun _=>t,fun _=>s,rfl,rfl,rfl,rfl,fun q a h=>by simp at h⟩
 | cons a al ih=>
  intro t t' s s' h
  obtain ⟨t1,s1,h1,h2⟩:=opsA_one h
  obtain ⟨tq,sq,e1,e2,e3,e4,e5⟩:=ih h2
  refine ⟨fun q=>Nat.rec t (fun q _=>tq q) q,fun q=>Nat.rec s (fun q _=>sq q) q,rfl,rfl,e3,e4,fun q b hb=>?_⟩
  cases q with
  | zero=>simp at hb;subst hb;show opsA e rec [a] t s=.ok (tq 0) (sq 0);rw [e1,e2];exact h1
  | succ q=>exact e5 q b (by simpa using hb)
end
end Go.AM
namespace Go.AM
structure Ran (P:Program) (e:Env) (rec:Rec) (N:Nat) (ops:Array Oper) (cs:List AOper) (its:List It) (tq:Nat->AT) (sq:Nat->St) (V:Nat->AV):Prop where
 op:∀ (q i:Nat) (o:Oper),its[q]?=some (.op i)->ops[i]?=some o->∃ d p g,cs[i]?=some (AOper.mk d p g)∧compDst N o.dst=some d∧compOp P o=some p∧compGuard ops N o.guard=some g∧tq (q+1)=putT d (V i) (tq q)∧
  ((wantedA g (tq q)=1∧V i=.tup []∧sq (q+1)=sq q)∨(wantedA g (tq q)=2∧opA p e rec (tq q) (sq q)=.ok (V i) (sq (q+1))))
 chk:∀ (q i:Nat),its[q]?=some (.chk i)->tq (q+1)=tq q∧sq (q+1)=sq q∧∃ d p g,cs[i]?=some (AOper.mk (d+1) p g)∧isLoad p=true∧
  (wantedA g (tq q)=1∨(wantedA g (tq q)=2∧∃ v s1,opA p e rec (tq q) (sq q)=.ok v s1∧(tq q).get d=some v))
section
variable {P:Program}{e:Env}{rec:Rec}{N:Nat}{ops:Array Oper}{cs:List AOper}{its:List It}{al:List AOper}{tq:Nat->AT}{sq:Nat->St}{V:Nat->AV}
theorem wantedA_cases (g:Option (Nat×Bool)) (t:AT):wantedA g t=0∨wantedA g t=1∨wantedA g t=2:=by
 cases g with
 | none=>exact .inr (.inr rfl)
 | some q=>
  obtain ⟨j,b⟩:=q
  show (Option.rec 0 (fun v=>BR.rec (Bool.rec 1 0 (isAny v)) (Bool.rec 1 2 b) (Bool.rec 2 1 b) (asBool v)) (t.get j):Nat)=0∨(Option.rec 0 (fun v=>BR.rec (Bool.rec 1 0 (isAny v)) (Bool.rec 1 2 b) (Bool.rec 2 1 b) (asBool v)) (t.get j):Nat)=1∨(Option.rec 0 (fun v=>BR.rec (Bool.rec 1 0 (isAny v)) (Bool.rec 1 2 b) (Bool.rec 2 1 b) (asBool v)) (t.get j):Nat)=2
  cases t.get j with
  | none=>exact .inl rfl
  | some v=>
   show (BR.rec (Bool.rec 1 0 (isAny v)) (Bool.rec 1 2 b) (Bool.rec 2 1 b) (asBool v):Nat)=0∨(BR.rec (Bool.rec 1 0 (isAny v)) (Bool.rec 1 2 b) (Bool.rec 2 1 b) (asBool v):Nat)=1∨(BR.rec (Bool.rec 1 0 (isAny v)) (Bool.rec 1 2 b) (Bool.rec 2 1 b) (asBool v):Nat)=2
   cases asBool v <;> cases b <;> cases isAny v <;> simp
variable {d:Nat}{p:AOp}{g:Option (Nat×Bool)}{t t':AT}{s s':St}
theorem one_mk (h:opsA e rec [.mk d p g] t s=.ok t' s'):
 ∃ v,t'=putT d v t∧((wantedA g t=1∧v=.tup []∧s'=s)∨(wantedA g t=2∧opA p e rec t s=.ok v s')):=by
 rcases opsA_cons h with ⟨hw,h⟩|⟨hw,v,s1,ho,h⟩
 ·cases h;exact ⟨_,rfl,.inl ⟨hw,rfl,rfl⟩⟩
 ·cases h;exact ⟨v,rfl,.inr ⟨hw,ho⟩⟩
theorem one_chk (h:opsA e rec [.chk d p g] t s=.ok t' s'):
 t'=t∧s'=s∧(wantedA g t=1∨(wantedA g t=2∧∃ v s1,opA p e rec t s=.ok v s1∧t.get d=some v)):=by
 change (Nat.rec .fail (fun w _=>Nat.rec (RT.ok t s) (fun _ _=>RV.rec .fail (fun v _=>Option.rec .fail (fun v0=>Bool.rec .fail (RT.ok t s) (eqV v v0)) (t.get d)) (opA p e rec t s)) w) (wantedA g t):RT)=.ok t' s' at h
 rcases wantedA_cases g t with hw|hw|hw
 ·rw [hw] at h;cases h
 ·rw [hw] at h;cases h;exact ⟨rfl,rfl,.inl hw⟩
 ·rw [hw] at h
  change (RV.rec .fail (fun v _=>Option.rec .fail (fun v0=>Bool.rec .fail (RT.ok t s) (eqV v v0)) (t.get d)) (opA p e rec t s):RT)=.ok t' s' at h
  cases ho:opA p e rec t s with
  | fail=>rw [ho] at h;cases h
  | ok v s1=>
   rw [ho] at h
   change (Option.rec .fail (fun v0=>Bool.rec .fail (RT.ok t s) (eqV v v0)) (t.get d):RT)=.ok t' s' at h
   cases hg:t.get d with
   | none=>rw [hg] at h;cases h
   | some v0=>
    rw [hg] at h
    change (Bool.rec .fail (RT.ok t s) (eqV v v0):RT)=.ok t' s' at h
    cases hq:eqV v v0 with
    | false=>rw [hq] at h;cases h
    | true=>rw [hq] at h;cases h;exact ⟨rfl,rfl,.inr ⟨hw,v,s1,rfl,by rw [eqV_eq hq]⟩⟩
theorem ran_of (hp:Plan P N ops cs its al) (h:opsA e rec al t s=.ok t' s'):
 ∃ tq sq V,Ran P e rec N ops cs its tq sq V∧tq 0=t∧sq 0=s∧tq its.length=t'∧sq its.length=s':=by
 obtain ⟨tq,sq,e1,e2,e3,e4,e5⟩:=run_states h
 have hst:∀ (q:Nat) (x:It),its[q]?=some x->∃ a,mkItem cs x=some a∧opsA e rec [a] (tq q) (sq q)=.ok (tq (q+1)) (sq (q+1)):=by
  intro q x hq
  obtain ⟨a,h1,h2⟩:=hp.al_get q x hq
  exact ⟨a,h2,e5 q a h1⟩
 have hV:∀ i,∃ v,∀ (q:Nat) (o:Oper),its[q]?=some (.op i)->ops[i]?=some o->∃ d p g,cs[i]?=some (AOper.mk d p g)∧compDst N o.dst=some d∧compOp P o=some p∧compGuard ops N o.guard=some g∧tq (q+1)=putT d v (tq q)∧
  ((wantedA g (tq q)=1∧v=.tup []∧sq (q+1)=sq q)∨(wantedA g (tq q)=2∧opA p e rec (tq q) (sq q)=.ok v (sq (q+1)))):=by
  intro i
  by_cases hi:i<ops.size
  ·obtain ⟨q,hq⟩:=hp.has i hi
   obtain ⟨o,ho⟩:∃ o,ops[i]?=some o:=⟨ops[i],by simp [hi]⟩
   obtain ⟨d,p,g,c1,c2,c3,c4⟩:=hp.cs_get i o ho
   obtain ⟨a,h1,h2⟩:=hst q _ hq
   have ha:a=.mk d p g:=by simp only [mkItem,c1] at h1;exact (Option.some.inj h1).symm
   subst ha
   obtain ⟨v,v1,v2⟩:=one_mk h2
   refine ⟨v,fun q' o' hq' ho'=>?_⟩
   have hqq:q'=q:=by
    rcases Nat.lt_trichotomy q' q with hlt|heq|hgt
    ·exact absurd rfl (hp.ne q' q i i hlt hq' hq)
    ·exact heq
    ·exact absurd rfl (hp.ne q q' i i hgt hq hq')
   subst hqq
   rw [ho] at ho';cases ho'
   exact ⟨d,p,g,c1,c2,c3,c4,v1,v2⟩
  ·exact ⟨.nilp,fun q o hq ho=>absurd (Array.getElem?_eq_some_iff.1 ho).1 hi⟩
 obtain ⟨V,hV⟩:=Classical.axiomOfChoice hV
 refine ⟨tq,sq,V,⟨fun q i o hq ho=>hV i q o hq ho,?_⟩,e1,e2,by rw [← hp.al_len];exact e3,by rw [← hp.al_len];exact e4⟩
 intro q i hq
 obtain ⟨a,h1,h2⟩:=hst q _ hq
 simp only [mkItem] at h1
 split at h1
 ·rename_i d p g hc
  split at h1
  ·rename_i hl
   cases h1
   obtain ⟨c1,c2,c3⟩:=one_chk h2
   exact ⟨c1,c2,d,p,g,hc,hl,c3⟩
  ·cases h1
 ·cases h1
theorem slot_of (hp:Plan P N ops cs its al) (hr:Ran P e rec N ops cs its tq sq V) (x:Nat) (v:AV):∀ q,q≤its.length->(tq q).get x=some v->
 (∃ q' j o,q'<q∧its[q']?=some (.op j)∧ops[j]?=some o∧o.dst=some x∧v=V j)∨((tq 0).get x=some v∧∀ (q' j:Nat) (o:Oper),q'<q->its[q']?=some (.op j)->ops[j]?=some o->o.dst≠some x):=by
 intro q
 induction q with
 | zero=>intro _ h;exact .inr ⟨h,fun q' j o hlt=>by omega⟩
 | succ q ih=>
  intro hq h
  have hlt:q<its.length:=by omega
  obtain ⟨y,hy⟩:∃ y,its[q]?=some y:=⟨its[q],by simp [hlt]⟩
  have lift:(tq q).get x=some v->(∀ (j:Nat) (o:Oper),its[q]?=some (.op j)->ops[j]?=some o->o.dst≠some x)->((∃ q' j o,q'<q+1∧its[q']?=some (.op j)∧ops[j]?=some o∧o.dst=some x∧v=V j)∨((tq 0).get x=some v∧∀ (q' j:Nat) (o:Oper),q'<q+1->its[q']?=some (.op j)->ops[j]?=some o->o.dst≠some x)):=fun h0 hn=>by
   rcases ih (by omega) h0 with ⟨q',j,o,a1,a2⟩|⟨a1,a2⟩
   ·exact Or.inl ⟨q',j,o,Nat.lt_succ_of_lt a1,a2⟩
   ·exact Or.inr ⟨a1,fun q' j o hq' hj ho=>by
     rcases Nat.lt_succ_iff_lt_or_eq.1 hq' with h1|h1
     ·exact a2 q' j o h1 hj ho
     ·subst h1;exact hn j o hj ho⟩
  cases y with
  | chk i=>
   rw [(hr.chk q i hy).1] at h
   exact lift h (fun j o hj=>by rw [hy] at hj;cases hj)
  | op i=>
   obtain ⟨o,ho⟩:∃ o,ops[i]?=some o:=⟨ops[i]'(hp.lt q i hy),by simp [hp.lt q i hy]⟩
   obtain ⟨d,p,g,c1,c2,c3,c4,c5,_⟩:=hr.op q i o hy ho
   rw [c5] at h
   cases hd:o.dst with
   | none=>
    rw [hd] at c2;cases c2
    exact lift h (fun j o' hj ho'=>by rw [hy] at hj;cases hj;rw [ho] at ho';cases ho';rw [hd];simp)
   | some z=>
    rw [hd] at c2
    simp only [compDst] at c2
    split at c2
    ·cases c2
     rcases T.get_set (show ((tq q).set (V i) z).get x=some v from h) with ⟨rfl,rfl⟩|⟨hne,h⟩
     ·exact .inl ⟨q,i,o,Nat.lt_succ_self _,hy,ho,hd,rfl⟩
     ·exact lift h (fun j o' hj ho'=>by rw [hy] at hj;cases hj;rw [ho] at ho';cases ho';rw [hd];intro e;cases e;exact hne rfl)
    ·cases c2
end
end Go.AM
namespace Go.AM
section
variable {P:Program}{γ:Gam}{s:St}{w:World}
theorem Sim.ghost (h:Sim P γ s w) (o:AObj):Sim P γ (s.alloc o) w:=by
 have hn:=h.nx s.next (Nat.le_refl _)
 have old:∀ {r:Nat}{x:AObj}{L:Loc},(s.alloc o).get r=some x->γ r=some L->s.get r=some x:=by
  intro r x L hx hL
  rcases St.get_alloc hx with ⟨rfl,_⟩|⟨_,hx⟩
  ·rw [hn] at hL;cases hL
  ·exact hx
 refine ⟨fun r x L hx hL=>h.obj r x L (old hx hL) hL,fun r r' x x' L L' hx hx' ha ha' hL hL' hne=>h.inj r r' x x' L L' (old hx hL) (old hx' hL') ha ha' hL hL' hne,h.lt,?_,?_,h.fzc,fun r x L hx ha hL=>h.fzr r x L (old hx hL) ha hL⟩
 ·intro r hr;rw [St.next_alloc] at hr;exact h.nx r (by omega)
 ·intro r x hx
  rw [St.next_alloc]
  rcases St.get_alloc hx with ⟨rfl,_⟩|⟨_,hx⟩
  ·omega
  ·have:=h.dom r x hx;omega
variable {γ0:Gam}{s0:St}{w0:World}
theorem Stp.ghost (h:Stp γ0 s0 w0 γ s w) (o:AObj):Stp γ0 s0 w0 γ (s.alloc o) w:=
 ⟨h.le,h.new,by rw [St.next_alloc];have:=h.next;omega,h.size,h.os,h.tape,h.output,h.blk,fun r h0 hr=>by rw [St.get_alloc_ne (by have:=h.next;omega)];exact h.keep r h0 hr,h.fzn⟩
variable {r sz es:Nat}{O:Obj}
theorem Sim.wake (h:Sim P γ s w) {obj:AObj}(hr:γ r=none) (hlt:r<s.next) (hg:∀ x,s.get r=some x->x=obj)
 (ho:ObjR P (ext γ r ⟨w.heap.size,0,sz,es⟩) ⟨w.heap.size,0,sz,es⟩ obj (w.alloc O).heap):Sim P (ext γ r ⟨w.heap.size,0,sz,es⟩) s (w.alloc O):=by
 have hle:=ext_le (L:=⟨w.heap.size,0,sz,es⟩) hr
 have hold:∀ b,b<w.heap.size->(w.alloc O).heap[b]?=w.heap[b]?:=fun b hb=>by
  show (w.heap.push O)[b]?=_
  rw [Array.getElem?_push,if_neg (by omega)]
 have hsz:(w.alloc O).heap.size=w.heap.size+1:=by show (w.heap.push O).size=_;simp
 refine ⟨?_,?_,?_,?_,h.dom,fun b c hb=>?_,fun k x L hx ha hL=>?_⟩
 rotate_right
 ·by_cases e:k=r
  ·subst e;rw [ext_same] at hL;cases hL;exact h.fzout (Nat.le_refl _)
  ·rw [ext_other _ _ e] at hL;exact h.fzr k x L hx ha hL
 rotate_right
 ·obtain ⟨e,fr,h1⟩:=h.fzc b c hb
  exact ⟨e,fr,(hold b (h.fzlt hb)).trans h1⟩
 ·intro k x L hx hL
  by_cases e:k=r
  ·subst e;rw [ext_same] at hL;cases hL;rw [hg x hx];exact ho
  ·rw [ext_other _ _ e] at hL
   exact ((h.obj k x L hx hL).mono hle).heap (hold _ (h.lt k L hL))
 ·intro k k' x x' L L' hx hx' ha ha' hL hL' hne
  by_cases e:k=r
  ·subst e
   rw [ext_same] at hL;rw [ext_other _ _ (fun e=>hne e.symm)] at hL';cases hL
   have:=h.lt _ _ hL';show w.heap.size≠L'.b;omega
  ·rw [ext_other _ _ e] at hL
   by_cases e':k'=r
   ·subst e';rw [ext_same] at hL';cases hL'
    have:=h.lt _ _ hL;show L.b≠w.heap.size;omega
   ·rw [ext_other _ _ e'] at hL'
    exact h.inj k k' x x' L L' hx hx' ha ha' hL hL' hne
 ·intro k L hL
  by_cases e:k=r
  ·subst e;rw [ext_same] at hL;cases hL;rw [hsz];exact Nat.lt_succ_self _
  ·rw [ext_other _ _ e] at hL;have:=h.lt k L hL;omega
 ·intro k hk
  rw [ext_other _ _ (by omega)];exact h.nx k hk
theorem Stp.wake (h:Stp γ0 s0 w0 γ s w) (hr:γ r=none) (h0:s0.next≤r):Stp γ0 s0 w0 (ext γ r ⟨w.heap.size,0,sz,es⟩) s (w.alloc O):=by
 have hle:=ext_le (L:=⟨w.heap.size,0,sz,es⟩) hr
 have hsz:(w.alloc O).heap.size=w.heap.size+1:=by show (w.heap.push O).size=_;simp
 have hsw:=h.size
 refine ⟨h.le.trans hle,?_,h.next,by omega,h.os,h.tape,h.output,?_,h.keep,h.fzn⟩
 ·intro k L hk hk0
  by_cases e:k=r
  ·subst e;rw [ext_same] at hk;cases hk;exact ⟨h0,.inl hsw⟩
  ·rw [ext_other _ _ e] at hk;exact h.new k L hk hk0
 ·intro b hb hn
  rw [← h.blk b hb hn]
  show (w.heap.push O)[b]?=_
  rw [Array.getElem?_push,if_neg (by omega)]
variable {t:AT}
theorem make_alloc {e:Env}{rec:Rec}{p:AOp}{v:AV}{s':St}(hp:isMake p=true) (h:opA p e rec t s=.ok v s'):∃ obj,s'=s.alloc obj:=by
 cases p with
 | new a b z=>cases h;exact ⟨_,rfl⟩
 | box a b x=>
  obtain ⟨u,_,h⟩:=wth_ok h
  obtain ⟨_,h⟩:=gd_ok h
  cases h;exact ⟨_,rfl⟩
 | bsl a b c z ps=>obtain ⟨u,_,h⟩:=opt_ok h;cases h;exact ⟨_,rfl⟩
 | mks a b z l c=>
  obtain ⟨_,_,h⟩:=nat_ok h
  obtain ⟨_,_,h⟩:=nat_ok h
  obtain ⟨_,h⟩:=gd_ok h
  cases h;exact ⟨_,rfl⟩
 | mkmap=>cases h;exact ⟨_,rfl⟩
 | _=>cases hp
variable {a:Act}{ops:Array Oper}{o:Oper}
theorem Evs_on (h:∀ x v,x ∈ slotsR ops o->t.get x=some v->∃ v',a.tmps[x]?=some v'∧VR γ v v'):Evs γ t a.eval o.op.operands.toList:=by
 intro x hx y v hy hv
 unfold aop at hy
 split at hy
 ·rename_i i
  cases hy
  change (Option.rec .none (fun v=>.some v) (t.get i):OV)=.some v at hv
  cases hg:t.get i with
  | none=>rw [hg] at hv;cases hv
  | some u=>
   rw [hg] at hv;cases hv
   obtain ⟨v',h1,h2⟩:=h i v (List.mem_append_left _ (List.mem_filterMap.2 ⟨.tmp i,hx,rfl⟩)) hg
   show VR γ v (a.tmps.getD i undef)
   rw [Array.getD_eq_getD_getElem?,h1];exact h2
 ·obtain ⟨u,hu,rfl⟩:=map_some hy
  cases hv;exact av_VR hu
 ·cases hy;cases hv;exact .fn _ _ _ _ _ .nil .nil
 ·cases hy
theorem wanted_on {N:Nat}{g:Option (Nat×Bool)}(h:∀ x v,x ∈ slotsR ops o->t.get x=some v->∃ v',a.tmps[x]?=some v'∧VR γ v v') (hg:compGuard ops N o.guard=some g):
 (wantedA g t=2->Region.wanted o (yielded ops a.tmps)=true)∧(wantedA g t=1->Region.wanted o (yielded ops a.tmps)=false):=by
 unfold compGuard at hg
 unfold Region.wanted
 split at hg
 ·rename_i hgo;cases hg;rw [hgo];exact ⟨fun _=>rfl,fun h=>(by cases h)⟩
 ·rename_i j b hgo
  rw [hgo]
  split at hg
  ·rename_i d hd;cases hg
   show ((Option.rec 0 (fun v=>BR.rec (Bool.rec 1 0 (isAny v)) (Bool.rec 1 2 b) (Bool.rec 2 1 b) (asBool v)) (t.get d):Nat)=2->(yielded ops a.tmps j == some b)=true)∧((Option.rec 0 (fun v=>BR.rec (Bool.rec 1 0 (isAny v)) (Bool.rec 1 2 b) (Bool.rec 2 1 b) (asBool v)) (t.get d):Nat)=1->(yielded ops a.tmps j == some b)=false)
   cases hgt:t.get d with
   | none=>exact ⟨fun h=>(by cases h),fun h=>(by cases h)⟩
   | some v=>
    obtain ⟨v',h1,h2⟩:=h d v (by unfold slotsR;rw [hgo];exact List.mem_append_right _ (by simp [hd])) hgt
    simp only [yielded,hd,Option.bind_some,h1]
    cases h2 <;> first|(cases b <;> rename_i q <;> cases q <;> simp [asBool,isAny])|(cases b <;> simp [asBool,isAny])
  ·cases hg
end
section
variable {P:Program}{e:Env}{rec:Rec}{N:Nat}{ops:Array Oper}{cs:List AOper}{its:List It}{al:List AOper}{tq:Nat->AT}{sq:Nat->St}{V:Nat->AV}{γ:Gam}
structure Slots (ops:Array Oper) (V:Nat->AV) (t0:AT) (D:Nat->Prop) (γ:Gam) (tm:Array Value):Prop where
 done:∀ (j:Nat) (o:Oper) (x:Nat),D j->ops[j]?=some o->o.dst=some x->∃ v',tm[x]?=some v'∧VR γ (V j) v'
 rest:∀ (x:Nat) (v:AV),t0.get x=some v->(∀ (j:Nat) (o:Oper),D j->ops[j]?=some o->o.dst≠some x)->∃ v',tm[x]?=some v'∧VR γ v v'
variable {t0:AT}{D:Nat->Prop}
theorem Slots.mono {γ':Gam}{tm:Array Value}(h:Slots ops V t0 D γ tm) (hle:Le γ γ'):Slots ops V t0 D γ' tm:=
 ⟨fun j o x hd ho hx=>let ⟨v',a,b⟩:=h.done j o x hd ho hx;⟨v',a,b.mono hle⟩,fun x v hv hn=>let ⟨v',a,b⟩:=h.rest x v hv hn;⟨v',a,b.mono hle⟩⟩
variable {a:Act}{q i:Nat}{o:Oper}
theorem sync_op (hp:Plan P N ops cs its al) (hr:Ran P e rec N ops cs its tq sq V) (hD:Closed ops D) (hS:Slots ops V (tq 0) D γ a.tmps) (hq:its[q]?=some (.op i)) (ho:ops[i]?=some o) (hn:¬ D i)
 (hpre:∀ j,((befores ops.toList []).getD i 0).testBit j=true->D j):∀ x v,x ∈ slotsR ops o->(tq q).get x=some v->∃ v',a.tmps[x]?=some v'∧VR γ v v':=by
 intro x v hx hv
 have hql:q<its.length:=(List.getElem?_eq_some_iff.1 hq).1
 rcases slot_of hp hr x v q (by omega) hv with ⟨q',j,oj,h1,h2,h3,h4,rfl⟩|⟨h1,h2⟩
 ·exact hS.done j oj x (hpre j (hp.rd1 q' q j i oj o x h1 h2 hq h3 ho h4 hx)) h3 h4
 ·refine hS.rest x v h1 fun j oj hdj hoj hxj=>?_
  have hjlt:j<ops.size:=(Array.getElem?_eq_some_iff.1 hoj).1
  obtain ⟨q',hq'⟩:=hp.has j hjlt
  rcases Nat.lt_trichotomy q' q with hlt|heq|hgt
  ·exact h2 q' j oj hlt hq' hoj hxj
  ·subst heq
   rw [hq] at hq';cases hq'
   exact hn hdj
  ·have hb:=hp.rd2 q q' i j o oj x hgt hq hq' ho hoj hxj hx
   exact hn (closed_of hp.back hD hjlt hdj hb)
theorem sync_chk (hp:Plan P N ops cs its al) (hr:Ran P e rec N ops cs its tq sq V) (hS:Slots ops V (tq 0) D γ a.tmps) {c:Nat}(hq:its[q]?=some (.op i)) (hc:its[c]?=some (.chk i)) (hqc:q<c) (ho:ops[i]?=some o)
 (hpre:∀ j,((befores ops.toList []).getD i 0).testBit j=true->D j):∀ x v,x ∈ slotsR ops o->(tq c).get x=some v->∃ v',a.tmps[x]?=some v'∧VR γ v v':=by
 intro x v hx hv
 have hcl:c<its.length:=(List.getElem?_eq_some_iff.1 hc).1
 rcases slot_of hp hr x v c (by omega) hv with ⟨q',j,oj,h1,h2,h3,h4,rfl⟩|⟨h1,h2⟩
 ·exact hS.done j oj x (hpre j (hp.reads c i j o oj x hc ho h3 h4 hx)) h3 h4
 ·refine hS.rest x v h1 fun j oj hdj hoj hxj=>?_
  have hjlt:j<ops.size:=(Array.getElem?_eq_some_iff.1 hoj).1
  have hilt:i<ops.size:=(Array.getElem?_eq_some_iff.1 ho).1
  obtain ⟨q',hq'⟩:=hp.has j hjlt
  have hbij:=hp.reads c i j o oj x hc ho hoj hxj hx
  by_cases hlt:q'<c
  ·exact h2 q' j oj hlt hq' hoj hxj
  ·have hb:=hp.rd2 q q' i j o oj x (by omega) hq hq' ho hoj hxj hx
   have e1:=before_lt hp.back i j hilt hbij
   have e2:=before_lt hp.back j i hjlt hb
   omega
theorem Slots.put (hp:Plan P N ops cs its al) (hS:Slots ops V t0 D γ a.tmps) {d:Nat}{v':Value}(ho:ops[i]?=some o) (hN:N≤a.tmps.size) (hd:compDst N o.dst=some d) (hv:VR γ (V i) v'∨o.dst=none) (hn:¬ D i):
 Slots ops V t0 (fun j=>D j∨j=i) γ (a.put o.dst v').tmps:=by
 have hilt:i<ops.size:=(Array.getElem?_eq_some_iff.1 ho).1
 obtain ⟨q,hq⟩:=hp.has i hilt
 cases hdst:o.dst with
 | none=>
  refine ⟨fun j oj x hdj hoj hxj=>?_,fun x v hx hn'=>hS.rest x v hx fun j oj hdj=>hn' j oj (.inl hdj)⟩
  rcases hdj with hdj|rfl
  ·exact hS.done j oj x hdj hoj hxj
  ·rw [ho] at hoj;cases hoj;rw [hdst] at hxj;cases hxj
 | some z=>
  rw [hdst] at hd hv
  have hzlt:z<a.tmps.size:=by
   simp only [compDst] at hd
   split at hd
   ·rename_i hz;exact Nat.lt_of_lt_of_le hz hN
   ·cases hd
  have hvv:=hv.resolve_right (by simp)
  have other:∀ x,x≠z->(a.put (some z) v').tmps[x]?=a.tmps[x]?:=by
   intro x hx
   show (a.tmps.setIfInBounds z v')[x]?=_
   rw [Array.getElem?_setIfInBounds,if_neg (fun e=>hx e.symm)]
  have same:(a.put (some z) v').tmps[z]?=some v':=by
   show (a.tmps.setIfInBounds z v')[z]?=_
   rw [Array.getElem?_setIfInBounds,if_pos rfl,if_pos hzlt]
  refine ⟨fun j oj x hdj hoj hxj=>?_,fun x v hx hn'=>?_⟩
  ·rcases hdj with hdj|rfl
   ·have hxz:x≠z:=by
     rintro rfl
     have hjlt:j<ops.size:=(Array.getElem?_eq_some_iff.1 hoj).1
     obtain ⟨q',hq'⟩:=hp.has j hjlt
     rcases Nat.lt_trichotomy q' q with hlt|heq|hgt
     ·exact hp.dst q' q j i oj o x hlt hq' hq hoj ho hxj hdst
     ·subst heq;rw [hq] at hq';cases hq';exact hn hdj
     ·exact hp.dst q q' i j o oj x hgt hq hq' ho hoj hdst hxj
    rw [other x hxz];exact hS.done j oj x hdj hoj hxj
   ·rw [ho] at hoj;cases hoj;rw [hdst] at hxj;cases hxj
    exact ⟨v',same,hvv⟩
  ·have hxz:x≠z:=by rintro rfl;exact hn' i o (.inr rfl) ho hdst
   rw [other x hxz];exact hS.rest x v hx fun j oj hdj=>hn' j oj (.inl hdj)
end
end Go.AM
