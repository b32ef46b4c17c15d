/- Contracts of functions over the abstract machine. No conditions. -/
import Derived.Test.YtblggmblcjoalaaGreatStA
import Derived.Test.YtblggmblcjoalaaGreatStB
import Derived.Test.YtblggmblcjoalaaGreatStD
import Derived.Test.YtblggmblcjoalaaGreatAM5
import Derived.Test.YtblggmblcjoalaaGreatStC
set_option linter.unusedVariables false
set_option linter.unusedSimpArgs false
set_option maxRecDepth 100000
namespace Go.AM
attribute [local irreducible] W
open X
structure CLX where
 c:Cfg
 ag:Int
 sq:Int
 tl:Int
 us:Int
 v:AV
 n:Nat
 cs:List AV
structure CLX.ok (x:CLX):Prop where
 c:x.c.ok
 v:Sl 6 x.n x.cs x.v
 n:1000<x.n
def CLX.args (x:CLX):List AV:=[x.c.v,.agg [.int .u32 x.ag,.int .u32 x.sq,.int .i64 x.tl,.int .i64 x.us,x.v]]
def lchkX:Fam CLX:=⟨CLX.ok,CLX.args,fun _=>.int .i64 8,fun _ _ _ _ _=>rfl⟩
variable {e:Env}
theorem lchkX_ok (hE:EM P e) (h78:Con e 133 cfgF.O) (h79:Inl e 246 code79 [.tmp 2]) (h38:Con e 77 stripesF.O) (h53:Con e 273 needF.O) (h122:Inl e 292 code122 [.tmp 2]):OvOk P 171 lchkX.O:=by
 refine Fam.ok_of g171.b ?_
 intro x hx
 have hvf:=hx.v.hf
 refine ⟨by show (true && ((true && (true && (true && (true && (AM.hf x.v && true))))) && true))=true;rw [hvf];rfl,rfl,C.of_G hE g171 ?_⟩
 have hout:lchkX.out x=.int .i64 8:=rfl
 rw [hout]
 by_cases hM:x.c.may
 ·have hlog:=Cfg.may_log hM
  have hM':=hM
  unfold Cfg.may at hM'
  have hcfg:∀ (K:AV->St->Prop) (s:St),K (.int .i64 0) s->ESc e 133 [x.c.v] s K:=fun K s hk=>ESc.fam cfgF h78 x.c hx.c (by simp [cfgF,hM]) hk
  have hst:∀ (K:AV->St->Prop) (s:St),K (.tup [.int .i64 (x.c.chunk*x.c.rows),.int .i64 0]) s->ESc e 77 [x.c.v] s K:=fun K s hk=>ESc.fam stripesF h38 x.c hx.c (by simp [stripesF,hM]) hk
  have hnd:∀ (K:AV->St->Prop) (s:St),K (.tup [.int .i64 (x.c.members+1),.int .i64 0]) s->ESc e 273 [x.c.v] s K:=fun K s hk=>ESc.fam needF h53 x.c hx.c (by simp [needF,hM]) hk
  obtain ⟨⟨c1,c2,c3,c4,c5,c6⟩,ag,sq,tl,us,v,n,cs⟩:=x
  obtain ⟨hx1,hv,hn⟩:=hx
  dsimp only at hlog hM' hv hn
  conv=>whnf
  refine hcfg _ _ ?_;conv=>whnf
  repeat' (first|refine nq6 ?_ ?_|(intro _;first|omega|conv=>whnf))
  refine ESc.inl h79 ?_;conv=>whnf
  refine hst _ _ ?_;conv=>whnf
  refine hnd _ _ ?_;conv=>whnf
  refine ESc.inl h122 (number_run e _ ag _ ?_)
  cases hA:numB ag <;> conv=>whnf
  ·repeat' (first|(refine nq13 ?_;conv=>whnf)|fail)
   exact .plain _ rfl
  repeat' (first|(refine nq12 ?_;conv=>whnf)|fail)
  refine ESc.inl h122 (number_run e _ sq _ ?_)
  cases hS:numB sq <;> conv=>whnf
  ·repeat' (first|(refine nq13 ?_;conv=>whnf)|fail)
   exact .plain _ rfl
  repeat' (first|((first|refine nq21 hv ?_|refine nq12 ?_|refine nq13 ?_);conv=>whnf)|refine nq1 ?_ ?_|refine nq3 ?_ ?_|refine nq4 ?_ ?_|(intro _;first|omega|conv=>whnf))
  all_goals first|exact .plain _ rfl|(exfalso;dsimp only at *;omega)
 ·conv=>whnf
  refine ESc.fam cfgF h78 x.c hx.c (u:=.int .i64 8) (by simp [cfgF,hM]) ?_;conv=>whnf
  repeat' (first|refine nq6 ?_ ?_|(intro _;first|omega|conv=>whnf))
  exact .plain _ rfl
def lchkR (args:List AV) (u:AV):Prop:=(∃ x:CL,lchkF.ok x∧args=lchkF.enc x∧u=lchkF.out x)∨(∃ x:CLX,lchkX.ok x∧args=lchkX.enc x∧u=lchkX.out x)
theorem lchkU_ok (h1:OvOk P 171 lchkF.O) (h2:OvOk P 171 lchkX.O):OvOk P 171 (relO lchkR):=by
 have key:∀ {α:Type}(F:Fam α) (x:α),F.ok x->∀ s,F.O (F.enc x) s=.ok (F.out x) s:=fun F x hx s=>by
  have h:∃ u,∃ y,F.ok y∧F.enc x=F.enc y∧u=F.out y:=⟨_,x,hx,rfl,rfl⟩
  unfold Fam.O relO
  rw [dif_pos h]
  obtain ⟨y,hy,e1,e2⟩:=Classical.choose_spec h
  rw [e2,← F.inj x y hx hy e1]
 refine relO_ok h1.1 fun args u hR s=>?_
 rcases hR with ⟨x,hx,rfl,rfl⟩|⟨x,hx,rfl,rfl⟩
 ·exact h1.2 _ s _ _ (key lchkF x hx s)
 ·exact h2.2 _ s _ _ (key lchkX x hx s)
theorem lchk_not {x:CL}{y:CLX}(hx:x.ok) (hy:y.ok) (h:x.args=y.args):False:=by
 have h1:=(List.cons.inj (List.cons.inj h).2).1
 have h2:x.v=y.v:=by
  have:=AV.agg.inj h1
  injection this with _ this
  injection this with _ this
  injection this with _ this
  injection this with _ this
  injection this
 have hn:=hy.n
 have hl:=hx.l.len
 have hv:Sl 6 x.l.live.length (lvs x.l.live) x.v:=hx.v
 rcases hv with ⟨e,e1,_⟩|⟨e,e1,_⟩|⟨c,e,_⟩ <;> rcases hy.v with ⟨f,f1,_⟩|⟨f,f1,_⟩|⟨d,f,_⟩ <;> rw [h2,f] at e <;> first|omega|(cases e;done)|skip
 injection e with e _ _
 omega
variable {s:St}
theorem lchk_short (h:Con e 171 (relO lchkR)) {x:CL}(hx:x.ok) {K:AV->St->Prop}(hk:K (.int .i64 (if x.good then 0 else 8)) s):ESc e 171 x.args s K:=by
 refine ESc.rel h ⟨_,.inl ⟨x,hx,rfl,rfl⟩⟩ ?_
 rintro u (⟨y,hy,e1,rfl⟩|⟨y,hy,e1,rfl⟩)
 ·rw [← CL.inja hx hy e1];exact hk
 ·exact (lchk_not hx hy e1).elim
noncomputable def mlgF:Fn (List Lv×Unit):=bF (.v lvC.sl .nil) (fun _=>True) fun x=>lagP x.1
def ksH (L:List Lv):Nat->List Int
 | 0=>[]
 | i+1=>match L[i]? with
  | some x=>if x.home=true then ksH L i else dAdd x.stripe (ksH L i)
  | none=>ksH L i
variable {k:Int}
theorem dAdd_mem {n:Int}{l:List Int}:n ∈ dAdd k l↔n=k∨n ∈ l:=by
 unfold dAdd
 split
 ·rename_i h
  exact ⟨.inr,fun h'=>h'.elim (fun e=>e ▸ h) id⟩
 ·simp [or_comm]
theorem ksH_mem {L:List Lv}{n:Int}:∀ {i:Nat},n ∈ ksH L i↔∃ k,k<i∧∃ y,L[k]?=some y∧y.home=false∧y.stripe=n
 | 0=>⟨fun h=>(by cases h),fun ⟨k,h,_⟩=>(by omega)⟩
 | i+1=>by
  have ih:=@ksH_mem L n i
  have up:(∃ k,k<i∧∃ y,L[k]?=some y∧y.home=false∧y.stripe=n)->∃ k,k<i+1∧∃ y,L[k]?=some y∧y.home=false∧y.stripe=n:=fun ⟨k,h,g⟩=>⟨k,by omega,g⟩
  unfold ksH
  cases hx:L[i]? with
  | none=>
   dsimp only
   rw [ih]
   refine ⟨up,fun ⟨k,h,y,g1,g2⟩=>?_⟩
   rcases Nat.lt_succ_iff_lt_or_eq.1 h with h|rfl
   ·exact ⟨k,h,y,g1,g2⟩
   ·rw [hx] at g1;cases g1
  | some x=>
   dsimp only
   split
   ·rename_i hh
    rw [ih]
    refine ⟨up,fun ⟨k,h,y,g1,g2⟩=>?_⟩
    rcases Nat.lt_succ_iff_lt_or_eq.1 h with h|rfl
    ·exact ⟨k,h,y,g1,g2⟩
    ·rw [hx] at g1;cases g1;rw [hh] at g2;cases g2.1
   ·rename_i hh
    rw [dAdd_mem,ih]
    constructor
    ·rintro (rfl|h)
     ·exact ⟨i,by omega,x,hx,by simpa using hh,rfl⟩
     ·exact up h
    ·rintro ⟨k,h,y,g1,g2,g3⟩
     rcases Nat.lt_succ_iff_lt_or_eq.1 h with h|rfl
     ·exact .inr ⟨k,h,y,g1,g2,g3⟩
     ·rw [hx] at g1;cases g1;exact .inl g3.symm
theorem mlgF_ok (hE:EM P e):OvOk P 90 mlgF.O:=by
 refine bF_ok hE g90 ?_
 rintro ⟨L,_⟩ _ ⟨v,_,rfl,⟨_,e0,hL⟩,rfl⟩-K t f
 cases e0
 dsimp only at t f hL
 obtain ⟨cs,hs',hl,hn⟩:=hL.lv
 have hvf:=hL.hf
 unfold lagP at t f
 conv=>whnf
 repeat' (first|(refine EPrim.lenZ rfl hs' ?_;conv=>whnf)|fail)
 refine W.upE hE (β:=List (AV×AV×Nat)×Nat) L.length (fun i b=>[(3,.map 0),(7,v),(8,.int .i64 (L.length:Int)),(9,.int .i64 (i:Int))]) (fun i b=>[.map b.1 b.2]) (fun i b=>KM (.int .i64 1) b.1 (ksH L i)∧∀ j<i,∀ x,L[j]?=some x->¬(x.home=true∧x.stripe ∈ ksH L j)) ([],0) ⟨KM.nil _,fun k h=>by omega⟩ (Abs.tells (rs:=[0]) .a) ?_
 rintro i ⟨es,N⟩ hi ⟨hK,hI⟩
 dsimp only at hK hI ⊢
 by_cases hlt:i<L.length
 ·obtain ⟨sq,st,bl,pa,su,ho,r,hx,hx',hd⟩:=hn i hlt
  have hks:ksH L (i+1)=if ho=true then ksH L i else dAdd st (ksH L i):=by
   show (match L[i]? with|some x=>if x.home=true then ksH L i else dAdd x.stripe (ksH L i)|none=>ksH L i)=_
   rw [hx]
  have hstep:∀ h:¬(ho=true∧st ∈ ksH L i),∀ j<i+1,∀ x,L[j]?=some x->¬(x.home=true∧x.stripe ∈ ksH L j):=fun h=>all_succ hI fun x e=>by rw [hx] at e;cases e;exact h
  have hyes:ho=true->st ∈ ksH L i->∀ s,K (.bool true) s:=fun h1 h2=>by
   obtain ⟨k,hk,y,g1,g2,g3⟩:=ksH_mem.1 h2
   exact t ⟨i,k,_,y,hk,hx,g1,h1,g3,g2⟩
  cases ho
  ·rw [if_neg Bool.false_ne_true] at hks
   conv=>whnf
   repeat' (first|((first|refine nq23 hs' hlt hd ?_|refine ETake.eq (cs:=[.int .u32 sq,.int .i64 st,.int .i64 bl,.bool pa,.bool su,.bool false]) rfl ?_|refine EPrim.msetK rfl rfl rfl rfl hK (fun es' N' hK'=>?_)|refine nq7 ?_|refine nq13 ?_|refine ⟨rfl,?_⟩);conv=>whnf)|refine nq1 ?_ ?_|(intro _;first|omega|conv=>whnf))
   refine ⟨hlt,(es',N'),⟨by rw [hks];exact hK',hstep (fun q=>nomatch q.1)⟩,Abs.tells (rs:=[0]) ⟨by decide,⟨r9,t9,r9,r9,trivial⟩,⟨⟨bdE_KM rfl hK',?_⟩,trivial⟩⟩⟩
   show _=some (AObj.map (mapE _ es') N');rw [mapE_KM rfl hK'];rfl
  ·rw [if_pos rfl] at hks
   conv=>whnf
   repeat' (first|(refine EPrim.mgetK rfl rfl rfl hK (fun hin=>?_) (fun hin=>?_) <;> conv=>whnf)|((first|refine nq23 hs' hlt hd ?_|refine ETake.eq (cs:=[.int .u32 sq,.int .i64 st,.int .i64 bl,.bool pa,.bool su,.bool true]) rfl ?_|refine nq7 ?_|refine nq12 ?_|refine ⟨rfl,?_⟩);conv=>whnf)|refine nq1 ?_ ?_|refine nq3 ?_ ?_|(intro _;first|omega|conv=>whnf))
   all_goals first
    | exact hyes rfl hin _
    | (refine ⟨hlt,(es,N),⟨by rw [hks];exact hK,hstep (fun q=>hin q.2)⟩,Abs.tells (rs:=[0]) ⟨by decide,⟨r9,t9,r9,r9,trivial⟩,⟨⟨bdE_KM rfl hK,?_⟩,trivial⟩⟩⟩
       show _=some (AObj.map (mapE _ es) N);rw [mapE_KM rfl hK];rfl)
 ·conv=>whnf
  repeat' (first|refine nq1 ?_ ?_|(intro _;first|omega|conv=>whnf))
  refine f ?_ _
  rintro ⟨j,k,x,y,h1,h2,h3,h4,h5,h6⟩
  have hj:=(List.getElem?_eq_some_iff.1 h2).1
  exact hI j (by omega) x h2 ⟨h4,ksH_mem.2 ⟨k,h1,y,h3,h6,h5⟩⟩
variable {L:List Lv}
theorem dirty_lst {s:Int}:dirtyP L s↔lstB L s=true∧(lstX L s).par=false:=by
 have hlt:=lastI_lt L s L.length
 unfold dirtyP lstB lstX
 rw [decide_eq_true_iff]
 constructor
 ·rintro ⟨h0,h1⟩
  rw [if_pos h0]
  obtain ⟨x,hx⟩:∃ x,L[(lastI L s L.length).toNat]?=some x:=⟨_,List.getElem?_eq_getElem (by omega)⟩
  exact ⟨h0,by rw [hx];exact h1 x hx⟩
 ·rintro ⟨h0,h1⟩
  rw [if_pos h0] at h1
  exact ⟨h0,fun x hx=>by rw [hx] at h1;exact h1⟩
variable {sq:Int}
theorem dealt_iff {st:Int}{bl:List (List Nat)}{di:List Bool}{ph:Nat}{de:Bool}:dealtP L (st,bl,di,ph,de,sq)↔(de=true↔lstB L st=true∧(lstX L st).par=false)∧(2≤ph->lstB L st=true∧(lstX L st).seq=sq∧(lstX L st).par=true∧(lstX L st).home=false∧((lstX L st).sure=true↔ph≠2)):=by
 have hlt:=lastI_lt L st L.length
 unfold dealtP
 dsimp only
 rw [dirty_lst]
 refine and_congr_right fun _=>imp_congr_right fun _=>?_
 unfold lstB lstX
 rw [decide_eq_true_iff]
 constructor
 ·rintro ⟨h0,h1⟩
  rw [if_pos h0]
  obtain ⟨x,hx⟩:∃ x,L[(lastI L st L.length).toNat]?=some x:=⟨_,List.getElem?_eq_getElem (by omega)⟩
  rw [hx]
  exact ⟨h0,h1 x hx⟩
 ·rintro ⟨h0,h1⟩
  rw [if_pos h0] at h1
  exact ⟨h0,fun x hx=>by rw [hx] at h1;exact h1⟩
noncomputable def mstF:Fn (Dv×Hd×Unit):=bF (.g dvC (.g hdC .nil)) (fun _=>True) fun x=>dealtP x.1.2.2.2.2.1.2.2.2.2 x.2.1
set_option maxHeartbeats 2000000 in
theorem mstF_ok (hE:EM P e) (h58:Con e 94 mlsF.O):OvOk P 93 mstF.O:=by
 refine bF_ok hE g93 ?_
 rintro ⟨⟨c,bk,⟨ev,lo,sp,po,dn,nl,br⟩,hs,⟨ag,sq,tl,us,L⟩,fs,nx,so⟩,⟨st,bl,di,ph,de,hq⟩,_⟩ _ ⟨_,_,rfl,hd,_,_,rfl,hh,rfl⟩-K t f
 have hst:=(hd_of hh).choose_spec.choose_spec.2.1
 have hml:=fun (Q:AV->St->Prop) s' k=>@Fn.u _ e 94 s' Q mlsF [.agg _,.int .i64 st] h58 (_,st,()) ⟨_,_,rfl,hd,_,_,rfl,⟨rfl,i64_wf hst⟩,rfl⟩ trivial k
 obtain ⟨hv,lv,fv,rfl,⟨ho,o1,o2,o3,o4,o5,o6,o7,o8,oN⟩,hH,hL,hF⟩:=dvw hd
 obtain ⟨bv,dv,rfl,g1,g2,g3,g4,g5⟩:=hd_of hh
 dsimp only at t f
 rw [dealt_iff] at t f
 unfold mlsF at hml
 dsimp only at hml
 generalize lstB L st=B at *
 generalize lstX L st=x at *
 obtain ⟨xq,xs,xb,xp,xu,xh⟩:=x
 replace hml:∀ (Q:AV->St->Prop) s',Q (.tup [.agg [.int .u32 xq,.int .i64 xs,.int .i64 xb,.bool xp,.bool xu,.bool xh],.bool B]) s'->ESc e 94 _ s' Q:=hml
 dsimp only at t f
 clear hd hh hst hH hL hF
 change VW P e 0 _ (initT [_,.agg [.int .i64 st,bv,dv,.int .u8 (ph:Int),.bool de,.int .u32 hq]] 0 .lf) St0 none [] _
 cases B <;> cases xp <;> cases de <;> cases xu <;> cases xh
 all_goals
  conv=>whnf
  repeat' (first|((first|refine hml _ _ ?_|refine nq12 ?_|refine nq13 ?_|refine nq15 ?_);conv=>whnf)|refine nq2 ?_ ?_|refine nq3 ?_ ?_|refine nq5 ?_ ?_|(intro _;first|omega|conv=>whnf))
  all_goals first
   | exact t (by simp <;> omega) _
   | exact f (by simp <;> omega) _
   | fail
def lgG (c:Cfg):Lg->Prop
 | (ag,sq,tl,us,L)=>c.may∧rightB ⟨⟨ag,sq,tl,us,L⟩,c⟩=true
variable {v:AV}
theorem Ls.lsl (h:Ls lvC L v):LSl L v∧∀ x ∈ L,x.ok:=by
 obtain ⟨ls,a,s,_⟩:=h
 have key:∀ {L:List Lv}{ls:List (List AV)},All2 lvC.r L ls->ls.flatten=lvs L∧∀ x ∈ L,x.ok:=by
  intro L
  induction L with
  | nil=>intro _ h;cases h;exact ⟨rfl,fun x hx=>by cases hx⟩
  | cons x L ih=>
   intro _ h
   cases h with
   | cons h1 h2=>
    obtain ⟨e,g⟩:=ih h2
    obtain ⟨rfl,hx⟩:=h1
    refine ⟨by rw [List.flatten_cons,e];rfl,fun y hy=>?_⟩
    rcases List.mem_cons.1 hy with rfl|hy
    ·exact hx
    ·exact g y hy
 obtain ⟨e,g⟩:=key a
 rw [e] at s
 exact ⟨s,g⟩
variable {c:Cfg}
theorem lch_use (h105:Con e 171 (relO lchkR)) (hc:c.ok) {ag tl us:Int}(o5:u32B ag) (o6:u32B sq) (o7:i64B tl) (o8:i64B us) (hL:Ls lvC L v) (hn:L.length≤1000) (Q:AV->St->Prop) (s:St) (y:lgG c (ag,sq,tl,us,L)->Q (.int .i64 0) s) (n:¬lgG c (ag,sq,tl,us,L)->Q (.int .i64 8) s):ESc e 171 [.agg c.c,.agg [.int .u32 ag,.int .u32 sq,.int .i64 tl,.int .i64 us,v]] s Q:=by
 obtain ⟨h1,h2⟩:=hL.lsl
 refine lchk_short (x:=⟨c,⟨ag,sq,tl,us,L⟩,v⟩) h105 ⟨hc,⟨o5,o6,o7,o8,h2,hn⟩,h1⟩ ?_
 by_cases h:CL.good ⟨c,⟨ag,sq,tl,us,L⟩,v⟩
 ·rw [if_pos h];exact y h
 ·rw [if_neg h];exact n h
def cd108:AC:=match a174 with|.mk c _=>c
noncomputable def ix108:Fn (List Fl×(Dv×Unit)×Unit):=ixF ftC 174 (.p dvC .nil) (fun _ _=>True) fun d f=>d.1.2.2.2.2.2.2.1≤f.1
theorem call108 (h108:Inl e 174 cd108 [.tmp 3]):CallP e ftC AV.agg 174 (.p dvC .nil) (fun _ _=>True) (fun (d:Dv×Unit) f=>d.1.2.2.2.2.2.2.1≤f.1):=by
 rintro ⟨⟨c,bk,⟨ev,lo,sp,po,dn,nl,br⟩,hs,⟨ag,sq,tl,us,L⟩,fs,nx,so⟩,_⟩ q xs ⟨n,⟨k,a,m,d⟩,st,sqs,da⟩ l ⟨_,_,rfl,hd,rfl⟩ _ _ hx Q t f
 obtain ⟨hv,lv,fv,rfl,ho,hH,hL,hF⟩:=dvw hd
 obtain ⟨dv,tv,qv,av,rfl,-⟩:=fl_of hx
 dsimp only at t f
 refine ECall.inl h108.O h108.G ?_;conv=>whnf
 repeat' (first|(refine nq22 ?_;conv=>whnf)|refine nq4 ?_ ?_|(intro _;first|omega|conv=>whnf))
 all_goals first
  | exact t (by assumption) _
  | exact f (by omega) _
def mprP:Dv->Prop
 | (c,_,o,hs,lg,fs,nx,_)=>c.may∧loB c o∧shB c hs∧lgG c lg∧flsB c fs∧(1≤nx∧nx≤2147483648)∧¬∃ f ∈ fs,nx≤f.1
noncomputable def mprF:Fn (Dv×Unit):=bF (.g dvC .nil) (fun x=>x.1.2.2.2.2.1.2.2.2.2.length≤1000) fun x=>mprP x.1
set_option maxHeartbeats 2000000 in
theorem mprF_ok (hE:EM P e) (h39:Con e 32 lossF.O) (h103:Con e 133 cfgF.O) (h104:Con e 161 shcF.O) (h105:Con e 171 (relO lchkR)) (h106:Con e 172 fchF.O) (h107:Inl e 173 cn107 [.tmp 4]) (h154:Con e 251 (relS (capR ix108.R))):OvOk P 88 mprF.O:=by
 refine bF_ok hE g88 ?_
 rintro ⟨⟨c,bk,⟨ev,lo,sp,po,dn,nl,br⟩,hs,⟨ag,sq,tl,us,L⟩,fs,nx,so⟩,_⟩ _ ⟨_,_,rfl,hd,rfl⟩ hn K t f
 dsimp only at hn t f
 have hrow:=dvC.hf hd
 have hd0:=hd
 obtain ⟨hv,lv,fv,rfl,⟨ho,o1,o2,o3,o4,o5,o6,o7,o8,oN⟩,hH,hL,hF⟩:=dvw hd
 have hc2:=fun (Q:AV->St->Prop) s a b=>@cF.u _ _ _ _ e 32 s Q _ h39 (c,_,()) ⟨_,_,rfl,⟨rfl,ho⟩,_,_,rfl,lo_mk (sp:=sp) (nl:=nl) (br:=br) o1 o2 o3 o4,rfl⟩ trivial a b
 have hc3:=fun (Q:AV->St->Prop) s a b=>@cF.u _ _ _ _ e 161 s Q [.agg c.c,hv] h104 (c,hs,()) ⟨_,_,rfl,⟨rfl,ho⟩,_,_,rfl,⟨_,rfl,hH⟩,rfl⟩ trivial a b
 have hc4:=lch_use h105 ho o5 o6 o7 o8 hL hn
 have hc5:=fun (Q:AV->St->Prop) s a b=>@cF.u _ _ _ _ e 172 s Q [.agg c.c,fv] h106 (c,fs,()) ⟨_,_,rfl,⟨rfl,ho⟩,_,_,rfl,⟨_,rfl,hF⟩,rfl⟩ trivial a b
 have hcn:=fun r (Q:AV->St->Prop) s' (hr:s'.get r=some (.row 45 _)) (y:(∃ f ∈ fs,nx≤f.1)->Q (.bool true) s') n=>cnt107 h107 (k:=Q) (p:=fun f:Fl=>nx≤f.1) (xs:=fs) (fun Q k=>@ESc.cap _ ix108 e 251 s' Q h154 fv 174 [.ptr r 0] [.fp _] (fs,((c,bk,(ev,lo,sp,po,dn,nl,br),hs,(ag,sq,tl,us,L),fs,nx,so),()),()) ⟨_,_,rfl,⟨_,rfl,hF⟩,_,_,rfl,⟨_,_,rfl,hd0,rfl⟩,rfl⟩ trivial (.cons ⟨r,45,_,rfl,rfl,hr,hrow⟩ .nil) rfl k) y n
 unfold mprP at t f
 dsimp only at t f hc2 hc3 hc4 hc5
 change VW P e 0 _ (initT [_] 0 .lf) St0 none [] _
 by_cases hM:c.may
 ·have hc1:=cfg_y h103 ho hM
  replace hc2:=fun (Q:AV->St->Prop) s (a:loB c (ev,lo,sp,po,dn,nl,br)->Q (.int .i64 0) s) (b:¬loB c (ev,lo,sp,po,dn,nl,br)->Q (.int .i64 8) s)=>hc2 Q s (fun q=>a q.2) (fun q=>b fun h=>q ⟨hM,h⟩)
  replace hc3:=fun (Q:AV->St->Prop) s (a:shB c hs->Q (.int .i64 0) s) (b:¬shB c hs->Q (.int .i64 8) s)=>hc3 Q s (fun q=>a q.2) (fun q=>b fun h=>q ⟨hM,h⟩)
  replace hc5:=fun (Q:AV->St->Prop) s (a:flsB c fs->Q (.int .i64 0) s) (b:¬flsB c fs->Q (.int .i64 8) s)=>hc5 Q s (fun q=>a q.2) (fun q=>b fun h=>q ⟨hM,h⟩)
  generalize loB c _=A1 at *
  generalize shB c _=A2 at *
  generalize lgG c _=A3 at *
  generalize flsB c _=A4 at *
  conv=>whnf
  repeat' (first|(refine hc2 _ _ (fun q1=>?_) (fun q1=>?_) <;> conv=>whnf)|(refine hc3 _ _ (fun q2=>?_) (fun q2=>?_) <;> conv=>whnf)|(refine hc4 _ _ (fun q3=>?_) (fun q3=>?_) <;> conv=>whnf)|(refine hc5 _ _ (fun q4=>?_) (fun q4=>?_) <;> conv=>whnf)|(refine hcn _ _ _ rfl (fun q5=>?_) (fun q5=>?_) <;> conv=>whnf)|((first|refine hc1 _ _ ?_|refine nq12 ?_|refine nq13 ?_);conv=>whnf)|refine nq2 ?_ ?_|refine nq4 ?_ ?_|refine nq5 ?_ ?_|(intro _;first|omega|conv=>whnf))
  all_goals first
   | exact t ⟨hM,q1,q2,q3,q4,⟨by assumption,by assumption⟩,q5⟩ _
   | exact f (fun q=>q1 q.2.1) _
   | exact f (fun q=>q2 q.2.2.1) _
   | exact f (fun q=>q3 q.2.2.2.1) _
   | exact f (fun q=>q4 q.2.2.2.2.1) _
   | exact f (fun q=>q.2.2.2.2.2.2 q5) _
   | exact f (fun q=>by omega) _
 ·have hc1:=cfg_n h103 ho hM
  conv=>whnf
  repeat' (first|(refine hc1 _ _ ?_;conv=>whnf)|refine nq5 ?_ ?_|(intro _;first|omega|conv=>whnf))
  exact f (fun q=>hM q.1) _
def PM (es:List (AV×AV×Nat)) (l:List Hd):Prop:=es.map (fun e=>(e.1,e.2.1))=l.map (fun h=>(AV.int .i64 h.1,AV.int .u8 (h.2.2.2.1:Int)))
theorem PM.cons {e:AV×AV×Nat}{es:List (AV×AV×Nat)}{l:List Hd}(h:PM (e::es) l):∃ x m,l=x::m∧e.1=.int .i64 x.1∧e.2.1=.int .u8 (x.2.2.2.1:Int)∧PM es m:=by
 cases l with
 | nil=>cases h
 | cons k l=>
  unfold PM at h
  simp at h
  exact ⟨k,l,rfl,h.1.1,h.1.2,h.2⟩
theorem PM.find {k:Int}:∀ {es:List (AV×AV×Nat)}{l:List Hd},PM es l->findK (.int .i64 k) es=some ((l.find? fun h=>decide (h.1=k)).map fun h=>AV.int .u8 (h.2.2.2.1:Int))
 | [],l,h=>by
  have:l=[]:=by
   have:=congrArg List.length h
   simp at this
   exact List.length_eq_zero_iff.1 this.symm
  subst this;rfl
 | (a,b,n)::es,l,h=>by
  obtain ⟨x,m,rfl,e1,e2,h'⟩:=h.cons
  dsimp only at e1 e2
  subst e1 e2
  show (match eqKey (.int .i64 k) (.int .i64 x.1) with|some true=>some (some _)|some false=>findK (.int .i64 k) es|none=>none)=_
  rw [eqKey_int,List.find?_cons]
  by_cases hk:x.1=k
  ·rw [decide_eq_true hk,show (k == x.1)=true by simp [hk]];rfl
  ·rw [decide_eq_false hk,show (k == x.1)=false by simp only [beq_eq_false_iff_ne];exact fun e=>hk e.symm]
   simp only
   rw [PM.find h']
variable {es:List (AV×AV×Nat)}{n:Nat}
theorem PM.app {l:List Hd}{x:Hd}(h:PM es l):PM (es++[(.int .i64 x.1,.int .u8 (x.2.2.2.1:Int),n)]) (l++[x]):=by
 unfold PM at h ⊢;simp [h]
theorem bdE_PM {n:Nat}:∀ {es:List (AV×AV×Nat)}{l:List Hd},PM es l->bdE n es=true
 | [],_,h=>rfl
 | (a,b,m)::es,_,h=>by
  obtain ⟨x,l,rfl,e1,e2,h'⟩:=h.cons
  dsimp only at e1 e2
  subst e1 e2
  show (true && true && bdE n es)=true
  rw [bdE_PM h'];rfl
theorem mapE_PM {ρ:Nat->Nat}:∀ {es:List (AV×AV×Nat)}{l:List Hd},PM es l->mapE ρ es=es
 | [],_,h=>rfl
 | (a,b,m)::es,_,h=>by
  obtain ⟨x,l,rfl,e1,e2,h'⟩:=h.cons
  dsimp only at e1 e2
  subst e1 e2
  show (AV.int .i64 _,AV.int .u8 _,m)::mapE ρ es=_
  rw [mapE_PM h']
variable {t:AT}{q:AV->St->Prop}{x:AO}{r:Nat}
theorem EPrim.msetP {y z:AO}{h:Hd}{l:List Hd}(hx:ev x t=.some (.map r)) (hy:ev y t=.some (.int .i64 h.1)) (hz:ev z t=.some (.int .u8 (h.2.2.2.1:Int))) (hs:s.get r=some (.map es n)) (hk:PM es l) (hn:∀ g ∈ l,g.1≠h.1)
 (hq:∀ es' n',PM es' (l++[h])->q (.tup []) (s.put r (.map es' n'))):EPrim (.mset x y z) t s q:=by
 refine EPrim.mk (v:=.tup []) (s':=s.put r (.map (es++[(.int .i64 h.1,.int .u8 (h.2.2.2.1:Int),n)]) (n+1))) (fun e rec=>?_) (hq _ _ hk.app)
 show wth x t _=_;unfold wth;rw [hx]
 show wth y t _=_;unfold wth;rw [hy]
 show wth z t _=_;unfold wth;rw [hz]
 show (Option.rec .fail _ (mapAt r s):RV)=_
 unfold mapAt;rw [hs]
 show (Option.rec .fail _ (findK (.int .i64 h.1) es):RV)=_
 rw [hk.find,List.find?_eq_none.2 fun g hg=>by simpa using hn g hg]
 show RV.ok _ (s.put r (.map (appL es [(.int .i64 h.1,.int .u8 (h.2.2.2.1:Int),n)]) (n+1)))=_
 rw [appL_eq]
theorem EPrim.mgetP {y:AO}{zv:AV}{l:List Hd}(hx:ev x t=.some (.map r)) (hy:ev y t=.some (.int .i64 k)) (hs:s.get r=some (.map es n)) (hk:PM es l)
 (h1:∀ h,l.find? (fun h=>decide (h.1=k))=some h->q (.tup [.int .u8 (h.2.2.2.1:Int),.bool true]) s) (h2:l.find? (fun h=>decide (h.1=k))=none->q (.tup [zv,.bool false]) s):EPrim (.mget zv true x y) t s q:=by
 cases hm:l.find? (fun h=>decide (h.1=k)) with
 | some h=>
  refine EPrim.mk (v:=.tup [.int .u8 (h.2.2.2.1:Int),.bool true]) (s':=s) (fun e rec=>?_) (h1 h hm)
  show wth x t _=_;unfold wth;rw [hx]
  show wth y t _=_;unfold wth;rw [hy]
  show (Option.rec .fail _ (mapAt r s):RV)=_
  unfold mapAt;rw [hs]
  show (Option.rec .fail _ (findK (.int .i64 k) es):RV)=_
  rw [hk.find,hm];rfl
 | none=>
  refine EPrim.mk (v:=.tup [zv,.bool false]) (s':=s) (fun e rec=>?_) (h2 hm)
  show wth x t _=_;unfold wth;rw [hx]
  show wth y t _=_;unfold wth;rw [hy]
  show (Option.rec .fail _ (mapAt r s):RV)=_
  unfold mapAt;rw [hs]
  show (Option.rec .fail _ (findK (.int .i64 k) es):RV)=_
  rw [hk.find,hm];rfl
theorem find_pl {hs:List Hd}{s:Int}:(∀ h,hs.find? (fun h=>decide (h.1=s))=some h->0≤plI hs s∧hs[(plI hs s).toNat]?=some h)∧(hs.find? (fun h=>decide (h.1=s))=none->plI hs s=-1):=by
 unfold plI
 constructor
 ·intro h hf
  cases hi:hs.findIdx? (fun h=>decide (h.1=s)) with
  | none=>
   rw [List.findIdx?_eq_none_iff] at hi
   have:=List.find?_some hf
   have hm:=List.mem_of_find?_eq_some hf
   rw [hi h hm] at this;cases this
  | some i=>
   dsimp only
   refine ⟨by omega,?_⟩
   rw [Int.toNat_natCast]
   obtain ⟨h1,h2,h3⟩:=List.findIdx?_eq_some_iff_getElem.1 hi
   rw [List.getElem?_eq_getElem h1]
   rw [List.find?_eq_some_iff_getElem] at hf
   obtain ⟨g1,j,hj,g2,g3⟩:=hf
   rcases Nat.lt_trichotomy i j with hij|hij|hij
   ·have:=g3 i hij;simp at this h2;exact absurd h2 this
   ·subst hij;rw [g2]
   ·have:=h3 j hij
    rw [g2] at this
    exact absurd g1 this
 ·intro hf
  rw [List.find?_eq_none] at hf
  rw [List.findIdx?_eq_none_iff.2 fun x hx=>by simpa using hf x hx]
def cd56:AC:=match a92 with|.mk c _=>c
noncomputable def ix56:Fn (List Hd×Unit×Unit):=ixF hdC 92 .nil (fun _ _=>True) fun _ h=>h.2.2.2.2.1=true∨h.2.2.2.1=2∨h.2.2.2.1=3
theorem call56 (h56:Inl e 92 cd56 [.tmp 2]):CallP e hdC AV.agg 92 .nil (fun _ _=>True) (fun (_:Unit) h=>h.2.2.2.2.1=true∨h.2.2.2.1=2∨h.2.2.2.1=3):=by
 rintro c q xs ⟨st,bl,di,ph,de,sq⟩ l rfl _ _ hx Q y n
 obtain ⟨bv,dv,rfl,-⟩:=hd_of hx
 dsimp only at y n
 refine ECall.inl h56.O h56.G ?_
 cases de
 all_goals
  conv=>whnf
  repeat' (first|refine nq5 ?_ ?_|(intro _;first|omega|conv=>whnf))
  all_goals first
   | exact y (.inl rfl) _
   | exact y (by omega) _
   | exact n (fun q=>by simp at q;omega) _
def mckP:Dv->Prop
 | (c,bk,(ev,lo,sp,po,dn,nl,br),hs,(ag,sq,tl,us,L),fs,nx,so)=>mprP (c,bk,(ev,lo,sp,po,dn,nl,br),hs,(ag,sq,tl,us,L),fs,nx,so)∧heldP c hs fs∧¬lagP L∧(nl=true->bareP hs L)∧(nl=false->(∀ i<hs.length,∀ h,hs[i]?=some h->dealtP L h)∧∀ i<L.length,∀ x,L[i]?=some x->keptP L hs x.stripe)
noncomputable def mckF:Fn (Dv×Unit):=cF (.g dvC .nil) (fun x=>x.1.2.2.2.2.1.2.2.2.2.length≤1000) fun x=>mckP x.1
theorem kept_lst {hs:List Hd}{x:Lv}{i:Nat}(hx:L[i]?=some x):keptP L hs x.stripe↔((lstX L x.stripe).par=false->0≤plI hs x.stripe)∧((lstX L x.stripe).par=true->(lstX L x.stripe).home=false->0≤plI hs x.stripe∧∀ h,hs[(plI hs x.stripe).toNat]?=some h->2≤h.2.2.2.1):=by
 have hl:=(List.getElem?_eq_some_iff.1 hx).1
 have h0:=lastI_ge hx rfl L.length hl
 have hlt:=lastI_lt L x.stripe L.length
 obtain ⟨y,hy⟩:∃ y,L[(lastI L x.stripe L.length).toNat]?=some y:=⟨_,List.getElem?_eq_getElem (by omega)⟩
 have:lstX L x.stripe=y:=by unfold lstX;rw [if_pos (by omega),hy];rfl
 rw [this]
 unfold keptP
 rw [hy]
 exact ⟨fun h=>h y rfl,fun h z hz=>by cases hz;exact h⟩
set_option maxHeartbeats 2000000 in
theorem mckF_ok (hE:EM P e) (h52:Con e 88 mprF.O) (h53:Con e 89 mhlF.O) (h54:Con e 90 mlgF.O) (h55:Inl e 91 cn55 [.tmp 4]) (h57:Con e 93 mstF.O) (h58:Con e 94 mlsF.O) (h110:Con e 176 (relS (capR ix56.R))):OvOk P 33 mckF.O:=by
 refine cF_ok hE g33 ?_
 rintro ⟨⟨c,bk,⟨ev,lo,sp,po,dn,nl,br⟩,hs,⟨ag,sq,tl,us,L⟩,fs,nx,so⟩,_⟩ _ ⟨_,_,rfl,hd,rfl⟩ hn1000 K t f
 dsimp only at hn1000
 have hrow:=dvC.hf hd
 have hc1:=fun (Q:AV->St->Prop) s a b=>@bF.u _ _ _ _ e 88 s Q _ h52 (_,()) ⟨_,_,rfl,hd,rfl⟩ hn1000 a b
 have hc2:=fun (hq:mprP (c,bk,(ev,lo,sp,po,dn,nl,br),hs,(ag,sq,tl,us,L),fs,nx,so)) (Q:AV->St->Prop) s a b=>@bF.u _ _ _ _ e 89 s Q _ h53 (_,()) ⟨_,_,rfl,hd,rfl⟩ ⟨hq.1,hq.2.2.1,hq.2.2.2.2.1⟩ a b
 have hc5:=fun h l (hh:hdC.r h l) (Q:AV->St->Prop) s a b=>@bF.u _ _ _ _ e 93 s Q _ h57 (_,h,()) ⟨_,_,rfl,hd,_,_,rfl,hh,rfl⟩ trivial a b
 have hc6:=fun s' (hs':i64B s') (Q:AV->St->Prop) st k=>@Fn.u _ e 94 st Q mlsF [.agg _,.int .i64 s'] h58 (_,s',()) ⟨_,_,rfl,hd,_,_,rfl,⟨rfl,i64_wf hs'⟩,rfl⟩ trivial k
 obtain ⟨hv,lv,fv,rfl,⟨ho,o1,o2,o3,o4,o5,o6,o7,o8,oN⟩,hH,hL,hF⟩:=dvw hd
 obtain ⟨cs,hs1,hl1,hn1⟩:=hH.nth
 obtain ⟨ls,hs2,hl2,hn2⟩:=hL.lv
 have hvf:=hH.hf
 have hlf:=hL.hf
 have hc3:=fun (Q:AV->St->Prop) s a b=>@bF.u _ _ _ _ e 90 s Q [lv] h54 (L,()) ⟨_,_,rfl,⟨_,rfl,hL⟩,rfl⟩ trivial a b
 have hc4:=fun (Q:AV->St->Prop) s y n=>cnt55 (k:=Q) (s:=s) h55 (p:=fun h:Hd=>h.2.2.2.2.1=true∨h.2.2.2.1=2∨h.2.2.2.1=3) (xs:=hs) (fun Q k=>@ESc.cap _ ix56 e 176 s Q h110 hv 92 [] [] (hs,(),()) ⟨_,_,rfl,⟨_,rfl,hH⟩,_,_,rfl,rfl,rfl⟩ trivial .nil rfl k) y n
 have hbare:bareP hs L↔L.length=0∧¬∃ h ∈ hs,h.2.2.2.2.1=true∨h.2.2.2.1=2∨h.2.2.2.1=3:=by
  unfold bareP
  refine and_congr_right fun _=>?_
  constructor
  ·rintro h ⟨x,hx,hq⟩
   obtain ⟨i,hi⟩:=List.getElem?_of_mem hx
   have:=h i (List.getElem?_eq_some_iff.1 hi).1 x hi
   rcases hq with hq|hq|hq
   ·rw [hq] at this;cases this.1
   ·exact this.2.1 hq
   ·exact this.2.2 hq
  ·intro h i hi x hx
   have hm:=List.mem_of_getElem? hx
   exact ⟨Bool.eq_false_iff.2 fun q=>h ⟨x,hm,.inl q⟩,fun q=>h ⟨x,hm,.inr (.inl q)⟩,fun q=>h ⟨x,hm,.inr (.inr q)⟩⟩
 have hshB:mprP (c,bk,(ev,lo,sp,po,dn,nl,br),hs,(ag,sq,tl,us,L),fs,nx,so)->shB c hs:=fun h=>h.2.2.1
 unfold mckP at t f
 dsimp only at t f hc1 hc2 hc3 hc4
 rw [hbare] at t f
 generalize (∃ h ∈ hs,h.2.2.2.2.1=true∨h.2.2.2.1=2∨h.2.2.2.1=3)=A4 at *
 generalize mprP _=A1 at *
 generalize heldP c hs fs=A2 at *
 generalize lagP L=A3 at *
 change VW P e 0 _ (initT [_] 0 .lf) St0 none [] _
 cases nl
 all_goals
  conv=>whnf
  repeat' (first|(refine hc1 _ _ (fun q1=>?_) (fun q1=>?_) <;> conv=>whnf)|(refine hc2 q1 _ _ (fun q2=>?_) (fun q2=>?_) <;> conv=>whnf)|(refine hc3 _ _ (fun q3=>?_) (fun q3=>?_) <;> conv=>whnf)|(refine hc4 _ _ (fun q4=>?_) (fun q4=>?_) <;> conv=>whnf)|((first|refine nq21 hs1 ?_|refine nq21 hs2 ?_|refine nq12 ?_|refine nq13 ?_);conv=>whnf)|refine nq3 ?_ ?_|(intro _;first|omega|conv=>whnf))
  all_goals try first
   | exact f (fun q=>q1 q.1) _
   | exact f (fun q=>q2 q.2.1) _
   | exact f (fun q=>q.2.2.1 q3) _
   | exact f (fun q=>(q.2.2.2.1 rfl).2 q4) _
   | exact f (fun q=>by have:=(q.2.2.2.1 rfl).1;omega) _
   | exact t ⟨q1,q2,q3,fun _=>⟨by omega,q4⟩,fun h=>nomatch h⟩ _
 have hsh:=hshB q1
 refine W.upE hE (β:=List (AV×AV×Nat)×Nat) hs.length (fun i b=>[(1,.ptr 0 0),(3,.map 1),(41,hv),(42,.int .i64 (hs.length:Int)),(43,.int .i64 (i:Int))]) (fun i b=>[.row 45 (c.c++[.bool bk,.int .u32 ev,.int .i64 lo,.bool sp,.int .i64 po,.int .i64 dn,.bool false,.bool br,hv,.int .u32 ag,.int .u32 sq,.int .i64 tl,.int .i64 us,lv,fv,.int .i64 nx,.bool so]),.map b.1 b.2]) (fun i b=>PM b.1 (hs.take i)∧∀ j<i,∀ h,hs[j]?=some h->dealtP L h) ([],0) ⟨rfl,fun k h=>by omega⟩ (Abs.tells (rs:=[0,1]) .a) ?_
 rintro i ⟨es,N⟩ hi ⟨hP,hI⟩
 dsimp only at hP hI ⊢
 by_cases hlt:i<hs.length
 ·obtain ⟨x,l,r,hx,hxr,hd2⟩:=hn1 i hlt
  have hc5:=hc5 x l hxr
  have hfh:¬dealtP L x->∀ s,K (.int .i64 8) s:=fun g=>f fun q=>g ((q.2.2.2.2 rfl).1 i hlt x hx)
  have hth:dealtP L x->∀ j<i+1,∀ h,hs[j]?=some h->dealtP L h:=fun g=>all_succ hI fun y e=>by rw [hx] at e;cases e;exact g
  have htk:hs.take i++[x]=hs.take (i+1):=by rw [List.take_add_one,hx];rfl
  have hne:∀ g ∈ hs.take i,g.1≠x.1:=fun g hg=>by
   obtain ⟨j,hj⟩:=List.getElem?_of_mem hg
   rw [List.getElem?_take] at hj
   split at hj
   ·exact (hsh.1 i hlt x hx).2 j (by assumption) g hj
   ·cases hj
  obtain ⟨st,bl,di,ph,de,hsq⟩:=x
  obtain ⟨bv,dv,rfl,-⟩:=hd_of hxr
  dsimp only at hc5
  clear hn1 hn2 hI hc1 hc2 hc3 hc4 hc6
  conv=>whnf
  repeat' (first|(refine hc5 _ _ (fun hq=>?_) (fun hq=>?_) <;> conv=>whnf)|((first|refine nq23 hs1 hlt hd2 ?_|refine ETake.eq (cs:=[.int .i64 st,bv,dv,.int .u8 (ph:Int),.bool de,.int .u32 hsq]) rfl ?_|refine EPrim.msetP (h:=(st,bl,di,ph,de,hsq)) rfl rfl rfl rfl hP hne (fun es' N' hP'=>?_)|refine nq7 ?_|refine nq12 ?_|refine nq13 ?_|refine ⟨rfl,?_⟩);conv=>whnf)|refine nq1 ?_ ?_|(intro _;first|omega|conv=>whnf))
  ·refine ⟨hlt,(es',N'),⟨by rw [← htk];exact hP',hth hq⟩,Abs.tells (rs:=[0,1]) ⟨by decide,⟨r9,r9,t9,r9,r9,trivial⟩,⟨o9 hrow,⟨bdE_PM hP',?_⟩,trivial⟩⟩⟩
   show _=some (AObj.map (mapE _ es') N');rw [mapE_PM hP'];rfl
  ·exact hfh hq _
 ·obtain rfl:i=hs.length:=by omega
  rw [List.take_length] at hP
  have hI:∀ j<hs.length,∀ h,hs[j]?=some h->dealtP L h:=hI
  conv=>whnf
  repeat' (first|(refine nq21 hs2 ?_;conv=>whnf)|refine nq1 ?_ ?_|(intro _;first|omega|conv=>whnf))
  refine W.up hE L.length (fun i=>[(1,.ptr 0 0),(3,.map 1),(59,lv),(60,.int .i64 (L.length:Int)),(61,.int .i64 (i:Int))]) (fun i=>[.row 45 (c.c++[.bool bk,.int .u32 ev,.int .i64 lo,.bool sp,.int .i64 po,.int .i64 dn,.bool false,.bool br,hv,.int .u32 ag,.int .u32 sq,.int .i64 tl,.int .i64 us,lv,fv,.int .i64 nx,.bool so]),.map es N]) (fun i=>∀ j<i,∀ x,L[j]?=some x->keptP L hs x.stripe) (fun k h=>by omega) (Abs.tells (rs:=[0,1]) ⟨by decide,⟨r9,r9,t9,r9,r9,trivial⟩,⟨o9 hrow,⟨bdE_PM hP,?_⟩,trivial⟩⟩) ?_
  ·show _=some (AObj.map (mapE _ es) N);rw [mapE_PM hP];rfl
  intro i hi hJ
  by_cases hlt2:i<L.length
  ·obtain ⟨sq',st',bl',pa,su,ho',r,hx,hx',hd2⟩:=hn2 i hlt2
   have hc6:=hc6 st' hx'.2.1
   have hkl:=kept_lst (hs:=hs) hx
   dsimp only at hkl
   have hfh:¬keptP L hs st'->∀ s,K (.int .i64 8) s:=fun g=>f fun q=>g ((q.2.2.2.2 rfl).2 i hlt2 _ hx)
   have hth:keptP L hs st'->∀ j<i+1,∀ x,L[j]?=some x->keptP L hs x.stripe:=fun g=>all_succ hJ fun y e=>by rw [hx] at e;cases e;exact g
   rw [hkl] at hfh hth
   have hfp:=@find_pl hs st'
   have hpl:=plI_lt hs st'
   unfold mlsF at hc6
   dsimp only at hc6
   generalize lstB L st'=B at *
   generalize lstX L st'=y at *
   obtain ⟨xq,xs,xb,xp,xu,xh⟩:=y
   replace hc6:∀ (Q:AV->St->Prop) s',Q (.tup [.agg [.int .u32 xq,.int .i64 xs,.int .i64 xb,.bool xp,.bool xu,.bool xh],.bool B]) s'->ESc e 94 _ s' Q:=hc6
   dsimp only at hfh hth
   clear hkl hn1 hn2 hJ hI hc1 hc2 hc3 hc4 hc5 t f
   cases xp <;> cases xh
   all_goals
    conv=>whnf
    repeat' (first|(refine EPrim.mgetP rfl rfl rfl hP (fun h qs=>?_) (fun qs=>?_) <;> conv=>whnf)|((first|refine nq23 hs2 hlt2 hd2 ?_|refine ETake.eq (cs:=[.int .u32 sq',.int .i64 st',.int .i64 bl',.bool pa,.bool su,.bool ho']) rfl ?_|refine hc6 _ _ ?_|refine nq7 ?_|refine nq12 ?_|refine nq13 ?_|refine ⟨rfl,?_⟩);conv=>whnf)|refine nq1 ?_ ?_|refine nq2 ?_ ?_|(intro _;first|omega|conv=>whnf))
    all_goals first
     | exact ⟨hlt2,hth ⟨(fun q=>Bool.noConfusion q),(fun _ q=>Bool.noConfusion q)⟩,Abs.tells (rs:=[0,1]) ⟨by decide,⟨r9,r9,t9,r9,r9,trivial⟩,⟨o9 hrow,⟨bdE_PM hP,by show _=some (AObj.map (mapE _ es) N);rw [mapE_PM hP];rfl⟩,trivial⟩⟩⟩
     | exact ⟨hlt2,hth ⟨(fun _=>(hfp.1 h qs).1),(fun q=>Bool.noConfusion q)⟩,Abs.tells (rs:=[0,1]) ⟨by decide,⟨r9,r9,t9,r9,r9,trivial⟩,⟨o9 hrow,⟨bdE_PM hP,by show _=some (AObj.map (mapE _ es) N);rw [mapE_PM hP];rfl⟩,trivial⟩⟩⟩
     | exact hfh (fun q=>by have:=q.1 rfl;have:=hfp.2 qs;omega) _
     | exact hfh (fun q=>by have:=(q.2 rfl rfl).2 _ (hfp.1 h qs).2;omega) _
     | exact ⟨hlt2,hth ⟨(fun q=>Bool.noConfusion q),fun _ _=>⟨(hfp.1 h qs).1,fun g hg=>by rw [(hfp.1 h qs).2] at hg;cases hg;omega⟩⟩,Abs.tells (rs:=[0,1]) ⟨by decide,⟨r9,r9,t9,r9,r9,trivial⟩,⟨o9 hrow,⟨bdE_PM hP,by show _=some (AObj.map (mapE _ es) N);rw [mapE_PM hP];rfl⟩,trivial⟩⟩⟩
     | exact hfh (fun q=>by have:=(q.2 rfl rfl).1;have:=hfp.2 qs;omega) _
  ·conv=>whnf
   repeat' (first|refine nq1 ?_ ?_|(intro _;first|omega|conv=>whnf))
   exact t ⟨q1,q2,q3,(fun h=>nomatch h),fun _=>⟨hI,fun j hj=>hJ j (by omega)⟩⟩ _
variable {l:List AV}{a:Int}
theorem drd_use (h49:Con e 23 drdF.O) {x:Dk}(hx:dkC.r x l) (hs:smD x) (hp:dkP x) (ha:0≤a∧a<x.1.length) (Q:AV->St->Prop) (s:St) (k:Q (if x.2.2=true then .tup [.nils,.int .i64 40] else .tup [fzB (seenC x a),.int .i64 0]) s):ESc e 23 [.agg l,.int .i64 a] s Q:=by
 obtain ⟨y,hy,rfl⟩:=dk_DK hx
 have hi:=dk_iff hy
 have hok:=smD_ok hy hs
 have hn:=hok.n
 have hus:y.us.length=x.1.length:=by rw [hy.a.bs.length,hy.b]
 have hd:dskB y=true:=by rw [hi];exact hp
 refine ESc.fam (e:=e) (k:=Q) (s:=s) drdF h49 ⟨y,a⟩ ⟨hok,by dsimp only;unfold i64B;omega⟩ rfl ?_
 have he:(DKA.mk y a).e=if x.2.2=true then 40 else 0:=by
  show drdE y a=_
  unfold drdE
  rw [if_pos hd,if_pos (by omega),hy.d]
 show Q (drdOut ⟨y,a⟩) s
 unfold drdOut
 rw [he]
 cases hdd:x.2.2
 ·rw [hdd,if_neg Bool.false_ne_true] at k
  rw [if_neg Bool.false_ne_true,if_pos rfl,show pad (DKA.mk y a).b=seenC x a from seen_eq hy a]
  exact k
 ·rw [hdd,if_pos rfl] at k
  rw [if_pos rfl,if_neg (by decide)]
  exact k
def dkV:Ce DK:=⟨3,fun y l=>l=y.c∧y.ok,by rintro _ _ ⟨rfl,_⟩;rfl,by
 rintro y _ ⟨rfl,h⟩
 have:=DK.hf h.a
 show hfs y.c=true
 have e:AM.hf (.agg y.c)=true:=this
 simpa [AM.hf] using e,by
 rintro x y _ ⟨rfl,h1⟩ ⟨e,h2⟩
 exact DK.inj h1.a h2.a (congrArg AV.agg e)⟩
def twD (x:DK):DK:=⟨.fz x.us.length none (x.us.map clnV),x.us.map clnV,x.bs,(match x.ws.length with|0=>.nils|m+1=>.fz (m+1) none (wrs (x.ws.map clnW))),x.ws.map clnW,x.dead⟩
def twF:Fn (DK×Unit):=⟨.g dkV .nil,fun x=>1≤x.1.us.length,fun x=>(twD x.1).v⟩
theorem twF_ok (hE:EM P e) (h141:Inl e 155 code141 [.tmp 2]):OvOk P 87 twF.O:=by
 refine Fn.mk_ok g87.b ?_
 rintro ⟨x,_⟩ _ ⟨_,_,rfl,⟨rfl,hx⟩,rfl⟩ h1
 have h1:1≤x.us.length:=h1
 have hcl:hfs (x.us.map clnV)=true:=hfs_clnU hx.a
 have hwl:hfs (wrs (x.ws.map clnW))=true:=hfs_wrs fun w hw=>by
  obtain ⟨v,hv,rfl⟩:=List.mem_map.1 hw
  rcases (hx.a.ws v hv).b.1 with ⟨h,_⟩|⟨h,_⟩|⟨c,h,_⟩ <;> (show AM.hf (clnV v.u)=true;rw [h];rfl)
 refine ⟨by show AM.hf (twD x).v=true;unfold twD DK.v DK.c;dsimp only;split <;> rfl,((twO_ok hE h141).2 [x.v] St0 _ _ (twO_run ⟨hx,h1⟩ St0)).mono ?_⟩
 rintro v s' ⟨rfl,rfl⟩
 show Frz _ (twV 0 x) (twD x).v
 unfold twV twL twD DK.v DK.c
 dsimp only
 cases hw:x.ws.length with
 | zero=>exact .agg _ _ (.cons (.sl 0 0 _ _ _ 54 _ _ _ rfl (fun i x h=>by rw [Nat.zero_add];exact h) (frz_hfs hcl) (.inl rfl)) (.cons (.plain _ rfl) (.cons (.plain _ rfl) .nil)))
 | succ m=>exact .agg _ _ (.cons (.sl 0 0 _ _ _ 54 _ _ _ rfl (fun i x h=>by rw [Nat.zero_add];exact h) (frz_hfs hcl) (.inl rfl)) (.cons (.sl 1 0 _ _ _ 101 _ _ _ rfl (fun i x h=>by rw [Nat.zero_add];exact h) (frz_hfs hwl) (.inl rfl)) (.cons (.plain _ rfl) .nil)))
theorem twD_ok {x:DK}(h:x.ok):(twD x).ok:=by
 refine ⟨⟨?_,all2_cln h.a.bs,?_,?_⟩,?_,?_,h.b,?_⟩
 ·exact .inr (.inr ⟨_,by show AV.fz x.us.length none (x.us.map clnV)=.fz (x.us.map clnV).length none (x.us.map clnV);rw [List.length_map],(Nat.mul_one _).symm⟩)
 ·show Sl 2 (x.ws.map clnW).length (wrs (x.ws.map clnW)) (match x.ws.length with|0=>.nils|m+1=>.fz (m+1) none (wrs (x.ws.map clnW)))
  cases hw:x.ws with
  | nil=>exact .inl ⟨rfl,rfl,rfl⟩
  | cons w W=>
   refine .inr (.inr ⟨none,?_,?_⟩)
   ·rw [List.length_map];rfl
   ·have:∀ L:List WR,(wrs L).length=L.length*2:=fun L=>by
     induction L with
     | nil=>rfl
     | cons w L ih=>rw [wrs_cons,List.length_append,ih,List.length_cons];show 2+_=_;omega
    exact this _
 ·intro w hw
  obtain ⟨v,hv,rfl⟩:=List.mem_map.1 hw
  exact clnW_any (h.a.ws v hv)
 ·show (x.us.map clnV).length<_;rw [List.length_map];exact h.n
 ·show (x.ws.map clnW).length<_;rw [List.length_map];exact h.m
 ·intro w hw
  obtain ⟨v,hv,rfl⟩:=List.mem_map.1 hw
  exact h.w v hv
def tws (ys:List DK):List AV:=ys.flatMap fun y=>(twD y).c
variable {ys:List DK}
theorem tws_hf (h:∀ y ∈ ys,y.ok):hfs (tws ys)=true:=by
 refine hfs_iff.2 fun v hv=>?_
 obtain ⟨y,hy,hv⟩:=List.mem_flatMap.1 hv
 have:=DK.hf (twD_ok (h y hy)).a
 have e:AM.hf (.agg (twD y).c)=true:=this
 have e:hfs (twD y).c=true:=by simpa [AM.hf] using e
 exact hfs_iff.1 e v hv
theorem tws_len:∀ ys:List DK,(tws ys).length=ys.length*3
 | []=>rfl
 | y::ys=>by unfold tws;rw [List.flatMap_cons,List.length_append,show (ys.flatMap fun y=>(twD y).c).length=ys.length*3 from tws_len ys,List.length_cons];show 3+_=_;omega
def twsR (args:List AV) (s:St) (u:AV) (s':St):Prop:=∃ v ys,args=[v]∧Ls dkV ys v∧(1≤ys.length∧ys.length≤1000)∧(∀ y ∈ ys,1≤y.us.length)∧u=.sl s.next 0 ys.length none∧s'=s.alloc (.row 74 (tws ys))
theorem Ls.mem {α:Type}{A:Ce α}{xs:List α}(h:Ls A xs v) {x:α}(hx:x ∈ xs):∃ l,A.r x l:=by
 obtain ⟨ls,a,-⟩:=h
 obtain ⟨i,hi⟩:=List.getElem?_of_mem hx
 obtain ⟨l,-,hr⟩:=a.get hi
 exact ⟨l,hr⟩
theorem twsR_ok (hE:EM P e) (h66:Con e 87 twF.O):OvOk P 75 (relS twsR):=by
 refine relS_ok g75.b ?_
 rintro args s u s' ⟨v,ys,rfl,hL,hn,h1,rfl,rfl⟩
 have hvf:=hL.hf
 have hoks:∀ y ∈ ys,y.ok:=fun y hy=>by obtain ⟨l,-,h⟩:=hL.mem hy;exact h
 obtain ⟨cs,hs',hl',hnth⟩:=hL.nth
 have hf0:=tws_hf hoks
 have key:C P 75 [v] St0 (fun w s'=>w=.sl 0 0 ys.length none∧s'=allocs St0 [.row 74 (tws ys)]):=by
  refine C.abs (C.of_G hE g75 ?_);conv=>whnf
  refine EPrim.lenZ rfl hs' ?_;conv=>whnf
  refine W.up hE ys.length (fun i=>[(3,slO i 0),(6,v),(7,.int .i64 (ys.length:Int)),(8,.int .i64 (i:Int))]) (fun i=>match i with|0=>[]|i+1=>[.row 74 (tws (ys.take (i+1)))]) (fun _=>True) trivial (Abs.tells (rs:=[]) .a) ?_
  intro i hi _
  by_cases hlt:i<ys.length
  ·obtain ⟨y,_,r,hy,⟨rfl,hyo⟩,hd⟩:=hnth i hlt
   have hy1:=h1 y (List.mem_of_getElem? hy)
   have htw:∀ (Q:AV->St->Prop) s,Q (.agg (twD y).c) s->ESc e 87 [.agg y.c] s Q:=fun Q s k=>Fn.u (F:=twF) h66 (y,()) ⟨_,_,rfl,⟨rfl,hyo⟩,rfl⟩ hy1 k
   have hst:tws (ys.take (i+1))=tws (ys.take i)++(twD y).c:=by
    rw [List.take_add_one,hy];unfold tws;rw [List.flatMap_append];simp
   have hfi:=tws_hf (ys:=ys.take (i+1)) fun y hy=>hoks y (List.mem_of_mem_take hy)
   have hli:=tws_len (ys.take i)
   rw [List.length_take,Nat.min_eq_left hi] at hli
   obtain ⟨q1,q2,q3,hq⟩:∃ q1 q2 q3,(twD y).c=[q1,q2,q3]:=⟨_,_,_,rfl⟩
   rw [hq] at htw hst
   have hyc:y.c=[y.bv,y.wv,.bool y.dead]:=rfl
   rw [hyc] at hd htw
   rcases i with _|i
   ·conv=>whnf
    repeat' (first|((first|refine nq23 hs' hlt hd ?_|refine ETake.eq (cs:=[y.bv,y.wv,.bool y.dead]) rfl ?_|refine htw _ _ ?_|refine nq25 (m:=1) ?_|refine nq7 ?_|refine ⟨rfl,?_⟩);conv=>whnf)|refine nq1 ?_ ?_|(intro _;first|omega|conv=>whnf))
    refine ⟨hlt,trivial,Abs.tells (rs:=[2]) ⟨by decide,⟨r9,t9,r9,r9,trivial⟩,⟨⟨rowH hfi,?_⟩,trivial⟩⟩⟩
    show _=some (mapO _ (AObj.row 74 (tws (ys.take (0+1)))))
    rw [mapRowH hfi,hst];rfl
   ·have hil:i+1≤1000:=by omega
    conv=>whnf
    repeat' (first|((first|refine nq23 hs' hlt hd ?_|refine ETake.eq (cs:=[y.bv,y.wv,.bool y.dead]) rfl ?_|refine htw _ _ ?_|refine EPrim.appU (m:=1) (n:=i+1) (old:=tws (ys.take (i+1))) rfl rfl rfl rfl hli rfl (by decide) (by omega) ?_|refine nq7 ?_|refine ⟨rfl,?_⟩);conv=>whnf)|refine nq1 ?_ ?_|(intro _;first|omega|conv=>whnf))
    refine ⟨hlt,trivial,Abs.tells (rs:=[3]) ⟨by decide,⟨r9,t9,r9,r9,trivial⟩,⟨⟨rowH hfi,?_⟩,trivial⟩⟩⟩
    show _=some (mapO _ (AObj.row 74 (tws (ys.take (i+1+1)))))
    rw [mapRowH hfi,hst];rfl
  ·obtain ⟨m,hm⟩:∃ m,ys.length=m+1:=⟨ys.length-1,by omega⟩
   have him:i=m+1:=by omega
   subst him
   have htk:ys.take (m+1)=ys:=List.take_of_length_le (by omega)
   dsimp only
   rw [htk]
   conv=>whnf
   repeat' (first|refine nq1 ?_ ?_|(intro _;first|omega|conv=>whnf))
   refine ⟨[0],⟨by decide,⟨⟨rfl,?_⟩,trivial⟩,⟨o9 hf0,trivial⟩⟩⟩
   show _=some (AV.sl 0 0 ys.length none)
   rw [hm];rfl
 refine (C.frame (l:=[.row 74 (tws ys)]) (u:=.sl 0 0 ys.length none) (by show (AM.hf v && true)=true;rw [hvf];rfl) ?_ (.inl (by simp)) key ?_ s).mono ?_
 ·intro o ho;simp at ho;subst ho;rfl
 ·intro i o h;rcases i with _|i <;> simp at h;subst h;rfl
 ·rintro w s' ⟨rfl,rfl⟩
  refine ⟨?_,?_⟩
  ·show AV.sl (0+s.next) 0 _ none=_;rw [Nat.zero_add]
  ·show allocs s [mapO _ (.row 74 (tws ys))]=_
   rw [mapRowH hf0];rfl
abbrev Act:=Int×Nat×Int×List Nat
def actC:Ce Act:=i64C.pr (Ce.u8.pr (i64C.pr bytC))
variable {d:Nat}{b:List Nat}
theorem act_of (h:actC.r (k,d,a,b) l):∃ v,l=[.int .i64 k,.int .u8 (d:Int),.int .i64 a,v]∧i64B k∧d<256∧i64B a∧Ls Ce.u8 b v:=by
 obtain ⟨_,_,rfl,⟨rfl,h1⟩,_,_,rfl,⟨rfl,h2⟩,_,_,rfl,⟨rfl,h3⟩,v,rfl,h4⟩:=h
 exact ⟨v,rfl,wf_i64 h1,h2,wf_i64 h3,h4⟩
def cd138:AC:=match a163 with|.mk c _=>c
theorem call138 (h138:Inl e 163 cd138 [.tmp 2]) (h44:Con e 96 dskF.O):CallP e dkC AV.agg 163 .nil (fun _ xs=>∀ d ∈ xs,smD d) (fun (_:Unit) d=>¬dkP d):=by
 rintro c q xs x l rfl hok hmem hx Q y n
 have hd:=fun (Q:AV->St->Prop) s a b=>dch_use (e:=e) h44 hx (hok x hmem) Q s a b
 have hlen:=dkC.len hx
 obtain ⟨bs,ws,dd⟩:=x
 obtain ⟨bv,wv,rfl,-,-⟩:=dk_of hx
 refine ECall.inl h138.O h138.G ?_;conv=>whnf
 repeat' (first|(refine hd _ _ (fun q=>?_) (fun q=>?_) <;> conv=>whnf)|refine nq6 ?_ ?_|(intro _;first|omega|conv=>whnf))
 all_goals first
  | exact n (fun h=>h q) _
  | exact y q _
noncomputable def ix138:Fn (List Dk×Unit×Unit):=ixF dkC 163 .nil (fun _ xs=>∀ d ∈ xs,smD d) fun _ d=>¬dkP d
def dvsP (D:List Dk):Prop:=(1≤D.length∧D.length≤17)∧∀ d ∈ D,dkP d
noncomputable def dvsF:Fn (List Dk×Unit):=cF (.v dkC.sl .nil) (fun x=>∀ d ∈ x.1,smD d) fun x=>dvsP x.1
theorem dvsF_ok (hE:EM P e) (h139:Inl e 164 cn139 [.tmp 4]) (h182:Con e 241 (relS (capR ix138.R))):OvOk P 84 dvsF.O:=by
 refine cF_ok hE g84 ?_
 rintro ⟨D,_⟩ _ ⟨v,_,rfl,⟨_,e0,hL⟩,rfl⟩ hsm K t f
 cases e0
 dsimp only at t f hL hsm
 obtain ⟨cs,hs',hl,-⟩:=hL.nth
 have hcn:=fun (Q:AV->St->Prop) s y n=>cnt139 (k:=Q) (s:=s) h139 (p:=fun d:Dk=>¬dkP d) (xs:=D) (fun Q k=>@ESc.cap _ ix138 e 241 s Q h182 v 163 [] [] (D,(),()) ⟨_,_,rfl,⟨_,rfl,hL⟩,_,_,rfl,rfl,rfl⟩ hsm .nil rfl k) y n
 unfold dvsP at t f
 change VW P e 0 _ (initT [v] 0 .lf) St0 none [] _
 conv=>whnf
 repeat' (first|(refine hcn _ _ (fun q=>?_) (fun q=>?_) <;> conv=>whnf)|(refine EPrim.lenZ rfl hs' ?_;conv=>whnf)|refine nq1 ?_ ?_|refine nq3 ?_ ?_|(intro _;first|omega|conv=>whnf))
 all_goals first
  | exact f (fun h=>by omega) _
  | exact f (fun h=>by obtain ⟨d,hd,hn⟩:=q;exact hn (h.2 d hd)) _
  | exact t ⟨by omega,fun d hd=>Classical.byContradiction fun h=>q ⟨d,hd,h⟩⟩ _
theorem EPrim.eqbG {k:AV->St->Prop}{y:AO}{kd:Nat}{neg:Bool}{a b:AV}{r:Bool}(hx:ev x t=.some a) (hy:ev y t=.some b) (h:eqbA kd a b=some r) (hk:k (.bool (negB neg r)) s):EPrim (.eqb kd neg x y) t s k:=by
 refine EPrim.mk (v:=.bool (negB neg r)) (s':=s) (fun e rec=>?_) hk
 show wth x t _=_;unfold wth;rw [hx]
 show wth y t _=_;unfold wth;rw [hy]
 show (Option.rec .fail (fun c=>.ok (.bool (negB neg c)) s) (eqbA kd a b):RV)=_
 rw [h]
def mayA (D:List Dk):Act->Prop
 | (k,d,a,b)=>(0≤k∧k<D.length)∧(1≤d∧d≤3)∧(d=3->a=0∧b.length=0)∧(d≠3->(0≤a∧∀ x,D[k.toNat]?=some x->a<x.1.length)∧sized b)
noncomputable def amyF:Fn (Act×List Dk×Unit):=bF (.g actC (.v dkC.sl .nil)) (fun _=>True) fun x=>mayA x.2.1 x.1
def cd38:AC:=match a76 with|.mk c _=>c
theorem amyF_ok (hE:EM P e) (h38:Inl e 76 cd38 [.tmp 2]):OvOk P 95 amyF.O:=by
 refine bF_ok hE g95 ?_
 rintro ⟨⟨k,d,a,b⟩,D,_⟩ _ ⟨_,_,rfl,hg,v,_,rfl,⟨_,e0,hL⟩,rfl⟩-K t f
 cases e0
 dsimp only at t f hL
 obtain ⟨u,rfl,o1,o2,o3,hb⟩:=act_of hg
 obtain ⟨bs,hbs,hbl,-⟩:=hb.nth
 obtain ⟨cs,hs',hl,hn⟩:=hL.nth
 unfold mayA at t f
 dsimp only at t f
 unfold i64B at o1 o3
 unfold sized at t f
 change VW P e 0 _ (initT [.agg [.int .i64 k,.int .u8 (d:Int),.int .i64 a,u],v] 0 .lf) St0 none [] _
 by_cases hk:0≤k∧k<D.length
 ·obtain ⟨⟨xb,xw,xd⟩,_,r,hx,hxr,hd⟩:=hn k.toNat (by omega)
  obtain ⟨bv,wv,rfl,h1,-⟩:=dk_of hxr
  obtain ⟨ys,k1,l1,-⟩:=h1.nth
  have hkn:k=(k.toNat:Nat):=by omega
  have hkl:k.toNat<D.length:=by omega
  have hq:(∀ x:Dk,D[k.toNat]?=some x->a<x.1.length)↔a<xb.length:=by
   rw [hx]
   exact ⟨fun h=>h _ rfl,fun h x e=>by cases e;exact h⟩
  rw [hq] at t f
  rcases d with _|_|_|_|d
  all_goals
   conv=>whnf
   repeat' (first|((first|refine EPrim.lenZ rfl hs' ?_|refine ESc.inl h38 ?_|refine EPrim.eqbG rfl rfl rfl ?_|refine EPrim.ixaZ rfl rfl (by omega) (by omega) ?_|refine nq21 hbs ?_|refine nq22 ?_|refine EPrim.ixsM rfl hs' rfl hkn hkl hd ?_|refine nq21 k1 ?_|refine nq14 ?_);conv=>whnf)|refine nq1 ?_ ?_|refine nq4 ?_ ?_|refine nq5 ?_ ?_|(intro _;first|omega|conv=>whnf))
   all_goals first
    | exact t (by omega) _
    | exact f (by omega) _
 ·conv=>whnf
  repeat' (first|(refine EPrim.lenZ rfl hs' ?_;conv=>whnf)|refine nq1 ?_ ?_|refine nq4 ?_ ?_|(intro _;first|omega|conv=>whnf))
  all_goals exact f (fun q=>hk q.1) _
open Classical in
noncomputable def chN (l:List Act) (D:List Dk):Int:=if dvsP D then (if 1024<l.length then 4 else if ∀ a ∈ l,mayA D a then 0 else 2) else 8
noncomputable def achF:Fn (List Act×List Dk×Unit):=⟨.v actC.sl (.v dkC.sl .nil),fun x=>∀ d ∈ x.2.1,smD d,fun x=>.int .i64 (chN x.1 x.2.1)⟩
theorem achF_ok (hE:EM P e) (h83:Con e 84 dvsF.O) (h84:Con e 95 amyF.O):OvOk P 34 achF.O:=by
 refine Fn.mk_ok g34.b ?_
 rintro ⟨l,D,_⟩ _ ⟨w,_,rfl,⟨_,e1,hA⟩,v,_,rfl,⟨_,e0,hL⟩,rfl⟩ hsm
 cases e0
 cases e1
 dsimp only at hA hL hsm
 have hvf:=hL.hf
 have hwf:=hA.hf
 obtain ⟨cs,hs',hl,hn⟩:=hA.nth
 refine ⟨rfl,C.of_G hE g34 ?_⟩
 have hdv:=fun (Q:AV->St->Prop) s a b=>@cF.u _ _ _ _ e 84 s Q [v] h83 (D,()) ⟨_,_,rfl,⟨_,rfl,hL⟩,rfl⟩ hsm a b
 have hmy:=fun (x:Act) (l:List AV) (hx:actC.r x l) (Q:AV->St->Prop) s a b=>@bF.u _ _ _ _ e 95 s Q [.agg l,v] h84 (x,D,()) ⟨_,_,rfl,hx,_,_,rfl,⟨_,rfl,hL⟩,rfl⟩ trivial a b
 have fin:∀ st n,chN l D=n->Frz st (.int .i64 n) (achF.out (l,D,())):=by
  rintro st n rfl;exact .plain _ rfl
 generalize achF.out _=O at fin ⊢
 unfold chN at fin
 dsimp only at hdv hmy
 generalize dvsP D=A1 at *
 change VW P e 0 _ (initT [w,v] 0 .lf) St0 none [] _
 conv=>whnf
 repeat' (first|(refine hdv _ _ (fun q1=>?_) (fun q1=>?_) <;> conv=>whnf)|(refine EPrim.lenZ rfl hs' ?_;conv=>whnf)|refine nq3 ?_ ?_|refine nq6 ?_ ?_|(intro _;first|omega|conv=>whnf))
 ·exact fin _ _ (by rw [if_pos q1,if_pos (by omega)])
 ·have hle:¬1024<l.length:=by omega
  refine W.up hE l.length (fun i=>[(1,v),(16,w),(17,.int .i64 (l.length:Int)),(18,.int .i64 (i:Int))]) (fun _=>[]) (fun i=>∀ j<i,∀ a,l[j]?=some a->mayA D a) (fun k h=>by omega) (Abs.tells (rs:=[]) .a) ?_
  intro i hi hI
  by_cases hlt:i<l.length
  ·obtain ⟨x,c,r,hx,hxr,hd⟩:=hn i hlt
   have hmy:=hmy x c hxr
   have hth:mayA D x->∀ j<i+1,∀ a,l[j]?=some a->mayA D a:=fun g=>all_succ hI fun y e=>by rw [hx] at e;cases e;exact g
   have hfh:¬mayA D x->∀ st,Frz st (.int .i64 2) O:=fun h st=>fin _ _ (by rw [if_pos q1,if_neg hle,if_neg fun q=>h (q x (List.mem_of_getElem? hx))])
   obtain ⟨k,d,a,b⟩:=x
   obtain ⟨u,rfl,-⟩:=act_of hxr
   conv=>whnf
   repeat' (first|(refine hmy _ _ (fun q=>?_) (fun q=>?_) <;> conv=>whnf)|((first|refine nq23 hs' hlt hd ?_|refine ETake.eq (cs:=[.int .i64 k,.int .u8 (d:Int),.int .i64 a,u]) rfl ?_|refine nq7 ?_|refine nq12 ?_|refine nq13 ?_|refine ⟨rfl,?_⟩);conv=>whnf)|refine nq1 ?_ ?_|(intro _;first|omega|conv=>whnf))
   ·exact ⟨hlt,hth q,Abs.tells (rs:=[]) .a⟩
   ·exact hfh q _
  ·conv=>whnf
   repeat' (first|refine nq1 ?_ ?_|(intro _;first|omega|conv=>whnf))
   exact fin _ _ (by rw [if_pos q1,if_neg hle,if_pos (mem_at fun j hj=>hI j (by omega))])
 ·exact fin _ _ (by rw [if_neg q1])
def clnA (el k:Nat):AC:=.seq (.reg [.mk 3 (.mv (.c .nils)) none]) (.seq (.seq (.reg [.mk 4 (.mv (.t 0)) none,.mk 5 (.eqb 2 false (.t 3) (.c .nils)) none]) (.cond (.t 4) (.seq (.reg [.mk 3 (.mv (.c .nils)) none]) .ret) .skip)) (.seq (.reg [.mk 6 (.bsl el k 0 [] []) none,.mk 7 (.mv (.t 0)) none,.mk 8 (.app el k (.t 5) (.t 6)) none,.mk 3 (.mv (.t 7)) none]) .ret))
def clnR (k:Nat) (args:List AV) (u:AV):Prop:=∃ v n cs,args=[v]∧Sl k n cs v∧(0<k∧n≤1000000)∧hfs cs=true∧u=clnV v
theorem cln_hf {k:Nat}{cs:List AV}(h:Sl k n cs v):AM.hf (clnV v)=true:=by
 rcases h with ⟨rfl,_⟩|⟨rfl,_⟩|⟨c,rfl,_⟩ <;> rfl
variable {f:Nat}
theorem cln_ok (hE:EM P e) {el k:Nat}{fn:Func}(g:GK f fn (.mk (clnA el k) [.tmp 2])):OvOk P f (relO (clnR k)):=by
 refine relO_of g.b ?_
 rintro args u ⟨v,n,cs,rfl,hs,⟨hk,hn⟩,hc,rfl⟩
 have hvf:=hs.hf
 refine ⟨by show (AM.hf v && true)=true;rw [hvf];rfl,cln_hf hs,C.of_G hE g ?_⟩
 have fin:∀ (st:St) (r m:Nat) (c:Option Nat),st.get r=some (.row el cs)->m=n->Frz st (.sl r 0 m c) (.fz n none cs):=by
  rintro st r m c hg rfl
  exact .sl r 0 _ _ _ el _ _ _ hg (fun i x hx=>by rw [Nat.zero_add];exact hx) (frz_hfs hc) (.inl rfl)
 change VW P e 0 _ (initT [v] 0 .lf) St0 none [] _
 rcases hs with ⟨rfl,rfl,rfl⟩|⟨rfl,rfl,rfl⟩|⟨c,rfl,hl⟩
 ·conv=>whnf
  repeat' (first|(refine EPrim.eqbG rfl rfl rfl ?_;conv=>whnf)|fail)
  exact .plain _ rfl
 ·conv=>whnf
  repeat' (first|((first|refine EPrim.eqbG rfl rfl rfl ?_|refine EPrim.app0 rfl rfl rfl ?_);conv=>whnf)|fail)
  exact fin _ _ _ _ rfl rfl
 ·rcases cs with _|⟨x,l⟩
  ·have h0:n=0:=by
    rcases Nat.eq_zero_or_pos n with h|h
    ·exact h
    ·have:=Nat.mul_pos h hk
     simp at hl;omega
   subst h0
   conv=>whnf
   repeat' (first|((first|refine EPrim.eqbG rfl rfl rfl ?_|refine EPrim.app0 rfl rfl (src_fz (by simp) _) ?_);conv=>whnf)|fail)
   exact fin _ _ _ _ rfl rfl
  ·have h0:0<n:=by
    rcases Nat.eq_zero_or_pos n with h|h
    ·subst h;simp at hl
    ·exact h
   conv=>whnf
   repeat' (first|((first|refine EPrim.eqbG rfl rfl rfl ?_|refine EPrim.appE (m:=n) rfl rfl (src_fz hl _) rfl hl hk h0 hn ?_);conv=>whnf)|fail)
   exact fin _ _ _ _ rfl rfl
theorem c159_ok (hE:EM P e):OvOk P 303 (relO (clnR 6)):=cln_ok (el:=186) hE g303
theorem flat_hfs {α:Type}{A:Ce α}:∀ {xs:List α}{ls:List (List AV)},All2 A.r xs ls->hfs ls.flatten=true
 | _,_,.nil=>rfl
 | _,_,.cons h1 h2=>by rw [List.flatten_cons];exact hfs_app (A.hf h1) (flat_hfs h2)
theorem Ls.slh {α:Type}{A:Ce α}{xs:List α}(h:Ls A xs v):∃ cs,Sl A.k xs.length cs v∧hfs cs=true:=by
 obtain ⟨ls,a,s,_⟩:=h
 exact ⟨_,s,flat_hfs a⟩
theorem Ls.cln {α:Type}{A:Ce α}{xs:List α}(h:Ls A xs v):Ls A xs (clnV v):=by
 obtain ⟨ls,a,s,hn⟩:=h
 refine ⟨ls,a,?_,hn⟩
 rcases s with ⟨rfl,h1,h2⟩|⟨rfl,h1,h2⟩|⟨c,rfl,h1⟩
 ·exact .inl ⟨rfl,h1,h2⟩
 ·exact .inr (.inr ⟨none,by rw [h1,h2];rfl,by rw [h1,h2];simp⟩)
 ·exact .inr (.inr ⟨none,rfl,h1⟩)
theorem cln_use {α:Type}{A:Ce α}{xs:List α}(hf:Con e f (relO (clnR A.k))) (h:Ls A xs v) (hk:0<A.k) (hn:xs.length≤1000000) (Q:AV->St->Prop) (s:St) (q:Q (clnV v) s):ESc e f [v] s Q:=by
 obtain ⟨cs,h1,h2⟩:=h.slh
 refine ESc.rel hf ⟨_,v,_,cs,rfl,h1,⟨hk,hn⟩,h2,rfl⟩ ?_
 rintro u ⟨v',n',cs',e1,h1',-,-,rfl⟩
 cases e1
 exact q
def lgT:List AV->List AV
 | [ag,sq,tl,us,v]=>[ag,sq,tl,us,clnV v]
 | l=>l
theorem lgT_r {x:Lg}(h:lgC.r x l):lgC.r x (lgT l):=by
 obtain ⟨ag,sq,tl,us,L⟩:=x
 obtain ⟨_,_,rfl,⟨rfl,h1⟩,_,_,rfl,⟨rfl,h2⟩,_,_,rfl,⟨rfl,h3⟩,_,_,rfl,⟨rfl,h4⟩,v,rfl,h5⟩:=h
 exact ⟨[_],_,rfl,⟨rfl,h1⟩,[_],_,rfl,⟨rfl,h2⟩,[_],_,rfl,⟨rfl,h3⟩,[_],_,rfl,⟨rfl,h4⟩,_,rfl,Ls.cln h5⟩
def lgtR (args:List AV) (u:AV):Prop:=∃ x l,args=[.agg l]∧lgC.r x l∧x.2.2.2.2.length≤1000∧u=.agg (lgT l)
theorem lgt_use (h117:Con e 270 (relO lgtR)) {x:Lg}(h:lgC.r x l) (hs:x.2.2.2.2.length≤1000) (Q:AV->St->Prop) (s:St) (q:Q (.agg (lgT l)) s):ESc e 270 [.agg l] s Q:=by
 refine ESc.rel h117 ⟨_,x,l,rfl,h,hs,rfl⟩ ?_
 rintro u ⟨x',l',e1,-,-,rfl⟩
 cases e1
 exact q
theorem lgt_ok (hE:EM P e) (h159:Con e 303 (relO (clnR 6))):OvOk P 270 (relO lgtR):=by
 refine relO_of g270.b ?_
 rintro args u ⟨⟨ag,sq,tl,us,L⟩,l,rfl,hx,hn,rfl⟩
 have hrow:=lgC.hf hx
 have hrow2:=lgC.hf (lgT_r hx)
 obtain ⟨v,rfl,o1,o2,o3,o4,hL⟩:=lg_of hx
 dsimp only at hn hL
 have hvf:=hL.hf
 have hcf:=(Ls.cln hL).hf
 have hcc:=(Ls.cln hL).cell
 refine ⟨by show (hfs _ && true)=true;rw [hrow];rfl,by show hfs _=true;exact hrow2,C.of_G hE g270 ?_⟩
 have hcd:=fun Q s q=>cln_use (A:=lvC) (e:=e) (f:=303) h159 hL (by decide) (by omega) Q s q
 change VW P e 0 _ (initT [.agg [.int .u32 ag,.int .u32 sq,.int .i64 tl,.int .i64 us,v]] 0 .lf) St0 none [] _
 conv=>whnf
 repeat' (first|(refine stuckB (by show Nat.beq (lenL (cellsOf (clnV v))) 1=true;rw [hcc];rfl) ?_;rw [hcc];conv=>whnf)|(refine hcd _ _ ?_;conv=>whnf)|fail)
 exact .agg _ _ (.cons (.plain _ rfl) (.cons (.plain _ rfl) (.cons (.plain _ rfl) (.cons (.plain _ rfl) (.cons (.plain _ hcf) .nil)))))
def dkO (y:DK):Dk:=(y.bs,y.ws.map (fun w=>(w.at_,w.b)),y.dead)
variable {y:DK}
theorem dkO_of (h:y.any):DKof (dkO y) y:=⟨h,rfl,rfl,rfl⟩
variable {u:AV}
theorem BAt.ls (h:BAt u b) (hb:b.length≤9223372036854775807):Ls Ce.u8 b u:=by
 have e:∀ b:List Nat,(b.map fun (x:Nat)=>[AV.int .u8 (x:Int)]).flatten=bys b:=by
  intro b
  induction b with
  | nil=>rfl
  | cons x b ih=>rw [List.map_cons,List.flatten_cons,ih];rfl
 refine ⟨b.map fun (x:Nat)=>[.int .u8 (x:Int)],?_,by rw [e];exact h.1,hb⟩
 refine All2.of_get (by simp) fun i x l h1 h2=>?_
 rw [List.getElem?_map,h1] at h2
 cases h2
 exact ⟨rfl,h.2 x (List.mem_of_getElem? h1)⟩
theorem dkV_C (h:dkV.r y l):dkC.r (dkO y) l:=by
 obtain ⟨rfl,h⟩:=h
 refine ⟨[y.bv],_,rfl,⟨y.bv,rfl,y.us.map fun u=>[u],?_,?_,?_⟩,[y.wv],_,rfl,⟨y.wv,rfl,y.ws.map WR.c,?_,?_,?_⟩,rfl⟩
 ·refine All2.of_get (by rw [List.length_map,h.a.bs.length];rfl) fun i b l h1 h2=>?_
  rw [List.getElem?_map] at h2
  cases hu:y.us[i]? with
  | none=>rw [hu] at h2;cases h2
  | some u=>
   rw [hu] at h2
   cases h2
   obtain ⟨b',h3,h4⟩:=h.a.bs.get hu
   have h1:y.bs[i]?=some b:=h1
   rw [h1] at h3
   cases h3
   exact ⟨u,rfl,h4.ls (by have:=h.b b (List.mem_of_getElem? h1);omega)⟩
 ·have e:∀ us:List AV,(us.map fun u=>[u]).flatten=us:=fun us=>by
   induction us with
   | nil=>rfl
   | cons u us ih=>rw [List.map_cons,List.flatten_cons,ih];rfl
  rw [e,show (dkO y).1.length=y.us.length from h.a.bs.length.symm]
  exact h.a.bl
 ·have:=h.n
  rw [show (dkO y).1.length=y.us.length from h.a.bs.length.symm];omega
 ·refine All2.of_get (by simp [dkO]) fun i w l h1 h2=>?_
  rw [List.getElem?_map] at h2
  have h1:(y.ws.map fun w=>(w.at_,w.b))[i]?=some w:=h1
  rw [List.getElem?_map] at h1
  cases hu:y.ws[i]? with
  | none=>rw [hu] at h2;cases h2
  | some u=>
   rw [hu] at h1 h2
   cases h1
   cases h2
   have hm:=List.mem_of_getElem? hu
   exact ⟨[.int .i64 u.at_],[u.u],rfl,⟨rfl,i64_wf (h.a.ws u hm).at_⟩,u.u,rfl,(h.a.ws u hm).b.ls (by have:=h.w u hm;omega)⟩
 ·have e:(y.ws.map WR.c).flatten=wrs y.ws:=by unfold wrs;rw [List.flatMap_def]
  rw [e,show (dkO y).2.1.length=y.ws.length from List.length_map ..]
  exact h.a.wl
 ·have:=h.m
  rw [show (dkO y).2.1.length=y.ws.length from List.length_map ..];omega
theorem All2.map {α β γ:Type}{R:α->γ->Prop}{S:β->γ->Prop}{f:α->β}(h:∀ a c,R a c->S (f a) c):∀ {l:List α}{m:List γ},All2 R l m->All2 S (l.map f) m
 | _,_,.nil=>.nil
 | _,_,.cons h1 h2=>.cons (h _ _ h1) (All2.map h h2)
theorem lsV_C (h:Ls dkV ys v):Ls dkC (ys.map dkO) v:=by
 obtain ⟨ls,a,s,hn⟩:=h
 refine ⟨ls,a.map fun _ _ h=>dkV_C h,?_,by rw [List.length_map];exact hn⟩
 rw [List.length_map];exact s
theorem dwD_ok {x:DKW}(hx:x.ok) (h:dwE x=0):(dwD x).ok:=by
 have hw:wrtE x.d x.a x.b=0:=by unfold dwE at h;split at h <;> first|assumption|(rename_i hn;exact absurd h hn)
 obtain ⟨q1,q2,q3,q4⟩:=wrt0 hw
 have hbl:=oddB_no q3
 obtain ⟨p1,p2⟩:=pad_at hbl hx.b.2
 have hm:=hx.d.m
 have h24:x.d.ws.length≤1024:=(dskB_iff.1 q1).1.2.2
 refine ⟨⟨?_,all2_cln hx.d.a.bs,?_,fun w hw=>?_⟩,?_,?_,hx.d.b,fun w hw=>?_⟩
 ·exact .inr (.inr ⟨none,by show AV.fz x.d.us.length none (x.d.us.map clnV)=.fz (x.d.us.map clnV).length none (x.d.us.map clnV);rw [List.length_map],(Nat.mul_one _).symm⟩)
 ·have:∀ L:List WR,(wrs L).length=L.length*2:=fun L=>by
   induction L with
   | nil=>rfl
   | cons w L ih=>rw [wrs_cons,List.length_append,ih,List.length_cons];show 2+_=_;omega
  refine .inr (.inr ⟨none,?_,this _⟩)
  show AV.fz (x.d.ws.length+1) none (wrs (dwW x))=.fz (dwW x).length none (wrs (dwW x))
  unfold dwW
  rw [List.length_append,List.length_map];rfl
 ·rcases List.mem_append.1 hw with hw|hw
  ·obtain ⟨v,hv,rfl⟩:=List.mem_map.1 hw
   exact clnW_any (hx.d.a.ws v hv)
  ·rw [List.mem_singleton.1 hw]
   exact ⟨hx.a,p1⟩
 ·show (x.d.us.map clnV).length<_;rw [List.length_map];exact hx.d.n
 ·show (dwW x).length<_;unfold dwW;rw [List.length_append,List.length_map];simp;omega
 ·rcases List.mem_append.1 hw with hw|hw
  ·obtain ⟨v,hv,rfl⟩:=List.mem_map.1 hw
   exact hx.d.w v hv
  ·rw [List.mem_singleton.1 hw]
   show (pad x.b).length<_
   omega
def uB (b:List Nat):AV:=if b.length=0 then .nils else .fz b.length none (bys b)
theorem uB_at (h:∀ x ∈ b,x<256):BAt (uB b) b:=by
 unfold uB
 split
 ·rename_i h0
  rw [List.length_eq_zero_iff.1 h0]
  exact ⟨.inl ⟨rfl,rfl,rfl⟩,fun x hx=>by cases hx⟩
 ·exact ⟨.inr (.inr ⟨none,rfl,by rw [bys_length];exact (Nat.mul_one _).symm⟩),h⟩
def stX (y:DK) (a:Int) (b:List Nat):DKW:=⟨y,a,uB b,b⟩
theorem dwD_dsk {x:DKW}(hx:x.ok) (h:dwE x=0):dskB (dwD x)=true:=by
 have hw:wrtE x.d x.a x.b=0:=by unfold dwE at h;split at h <;> first|assumption|(rename_i hn;exact absurd h hn)
 obtain ⟨q1,q2,q3,q4⟩:=wrt0 hw
 have hbl:=oddB_no q3
 obtain ⟨p1,p2⟩:=pad_at hbl hx.b.2
 obtain ⟨⟨r1,r2,r3⟩,r4,r5,r6⟩:=dskB_iff.1 q1
 have h24:x.d.ws.length≠1024:=fun e=>by unfold dwE at h;rw [if_pos hw,if_pos e] at h;cases h
 have hus:(dwD x).us.length=x.d.us.length:=List.length_map ..
 refine dskB_iff.2 ⟨⟨by omega,by omega,?_⟩,r4,fun w hwm=>?_,fun hd=>?_⟩
 ·show (dwW x).length≤_
  unfold dwW;rw [List.length_append,List.length_map];simp;omega
 ·rw [hus]
  rcases List.mem_append.1 hwm with hwm|hwm
  ·obtain ⟨v,hv,rfl⟩:=List.mem_map.1 hwm
   exact r5 v hv
  ·rw [List.mem_singleton.1 hwm]
   unfold wBad
   simp only [Bool.or_eq_false_iff,decide_eq_false_iff_not]
   refine ⟨⟨by omega,by omega⟩,?_⟩
   show oddB (pad x.b).length=false
   rw [p2];rfl
 ·have:x.d.dead=true:=hd
  rw [q4] at this;cases this
def stD (y:DK):Act->Int×DK
 | (_,k,a,b)=>if y.dead=true then (0,y) else if k=1 then (dwE (stX y a b),dwD (stX y a b)) else if k=2 then (wrtE y a b,fuaD (stX y a b)) else (flE y,flD y)
def stY (Y:List DK) (a:Act):Int×List DK:=match Y[a.1.toNat]? with
 | none=>(0,Y)
 | some y=>((stD y a).1,Y.set a.1.toNat (stD y a).2)
def runI (Y:List DK) (l:List Act):Nat->List DK
 | 0=>Y
 | i+1=>match l[i]? with
  | none=>runI Y l i
  | some a=>(stY (runI Y l i) a).2
def runE (Y:List DK) (l:List Act):Nat->Int
 | 0=>0
 | i+1=>if runE Y l i≠0 then runE Y l i else match l[i]? with
  | none=>0
  | some a=>(stY (runI Y l i) a).1
theorem runE_mono {Y:List DK}{l:List Act}{i:Nat}(h:runE Y l i≠0):∀ n,i≤n->runE Y l n=runE Y l i
 | 0,hn=>by rw [show i=0 by omega]
 | n+1,hn=>by
  rcases Nat.lt_or_eq_of_le hn with hn|rfl
  ·have:=runE_mono h n (by omega)
   show (if runE Y l n≠0 then runE Y l n else _)=_
   rw [if_pos (by rw [this];exact h),this]
  ·rfl
def dkc (Y:List DK):List AV:=Y.flatMap DK.c
theorem dkc_len:∀ ys:List DK,(dkc ys).length=ys.length*3
 | []=>rfl
 | y::ys=>by unfold dkc;rw [List.flatMap_cons,List.length_append,show (ys.flatMap DK.c).length=ys.length*3 from dkc_len ys,List.length_cons];show 3+_=_;omega
theorem dkc_hf (h:∀ y ∈ ys,y.ok):hfs (dkc ys)=true:=by
 refine hfs_iff.2 fun v hv=>?_
 obtain ⟨y,hy,hv⟩:=List.mem_flatMap.1 hv
 have e:AM.hf (.agg y.c)=true:=DK.hf (h y hy).a
 have e:hfs y.c=true:=by simpa [AM.hf] using e
 exact hfs_iff.1 e v hv
theorem dkc_drop:∀ {ys:List DK}{i:Nat}{y:DK},ys[i]?=some y->(dkc ys).drop (i*3)=y.c++dkc (ys.drop (i+1))
 | [],_,_,h=>by cases h
 | x::ys,0,y,h=>by cases h;rfl
 | x::ys,i+1,y,h=>by
  show (x.c++dkc ys).drop ((i+1)*3)=_
  rw [show (i+1)*3=x.c.length+i*3 by show _=3+_;omega,List.drop_append,Nat.add_sub_cancel_left,dkc_drop (ys:=ys) h,List.drop_eq_nil_of_le (show x.c.length≤x.c.length+i*3 by omega)];rfl
theorem dkc_set:∀ {ys:List DK}{i:Nat}{y:DK},i<ys.length->(dkc ys).take (i*3)++y.c++(dkc ys).drop (i*3+3)=dkc (ys.set i y)
 | [],_,_,h=>by cases h
 | x::ys,0,y,h=>rfl
 | x::ys,i+1,y,h=>by
  show (x.c++dkc ys).take ((i+1)*3)++y.c++(x.c++dkc ys).drop ((i+1)*3+3)=x.c++dkc (ys.set i y)
  rw [show (i+1)*3=x.c.length+i*3 by show _=3+_;omega,List.take_append,Nat.add_assoc,List.drop_append,List.take_of_length_le (by omega),Nat.add_sub_cancel_left,List.append_assoc,List.append_assoc,← List.append_assoc (List.take _ _),← dkc_set (ys:=ys) (i:=i) (y:=y) (by simpa using h),List.append_assoc]
  rw [List.drop_eq_nil_of_le (show x.c.length≤x.c.length+(i*3+3) by omega),List.nil_append,Nat.add_sub_cancel_left]
  simp only [List.append_assoc]
theorem tws_dkc (ys:List DK):tws ys=dkc (ys.map twD):=by unfold tws dkc;rw [List.flatMap_map]
def gdY (Y:List DK):Prop:=∀ y ∈ Y,y.ok∧dskB y=true
theorem stX_ok (hy:y.ok) (ha:i64B a) (hb:∀ x ∈ b,x<256) (hs:sized b):(stX y a b).ok:=⟨hy,ha,uB_at hb,by unfold sized at hs;show b.length<_;omega⟩
theorem stD_good (hy:y.ok∧dskB y=true) (ha:i64B a) (hb:∀ x ∈ b,x<256) (hs:d≠3->sized b) (hd:1≤d∧d≤3) (he:(stD y (k,d,a,b)).1=0):((stD y (k,d,a,b)).2.ok∧dskB (stD y (k,d,a,b)).2=true)∧(stD y (k,d,a,b)).2.us.length=y.us.length:=by
 unfold stD at he ⊢
 dsimp only at he ⊢
 split
 ·exact ⟨hy,rfl⟩
 ·rename_i hdd
  rw [if_neg hdd] at he
  by_cases h1:d=1
  ·rw [if_pos h1] at he ⊢
   have hx:=stX_ok hy.1 ha hb (hs (by omega))
   exact ⟨⟨dwD_ok hx he,dwD_dsk hx he⟩,List.length_map ..⟩
  ·rw [if_neg h1] at he ⊢
   by_cases h2:d=2
   ·rw [if_pos h2] at he ⊢
    have hx:=stX_ok hy.1 ha hb (hs (by omega))
    exact ⟨⟨fuaD_ok hx he,fuaD_dsk hx he⟩,fuaD_len _⟩
   ·rw [if_neg h2] at he ⊢
    exact ⟨⟨flD_ok hy.1,flD_dsk hy.1 hy.2⟩,flD_len _⟩
theorem run_good {ys Y0:List DK}{l:List Act}(hY:gdY Y0) (hl:∀ x ∈ l,i64B x.2.2.1∧(∀ z ∈ x.2.2.2,z<256)∧mayA (ys.map dkO) x):∀ i,runE Y0 l i=0->gdY (runI Y0 l i)∧(runI Y0 l i).length=Y0.length∧∀ (j:Nat) (y:DK),(runI Y0 l i)[j]?=some y->∃ z,Y0[j]?=some z∧y.us.length=z.us.length
 | 0,_=>⟨hY,rfl,fun j y h=>⟨y,h,rfl⟩⟩
 | i+1,he=>by
  have h0:runE Y0 l i=0:=Classical.byContradiction fun h=>by
   have:=runE_mono h (i+1) (by omega)
   rw [this] at he;exact h he
  obtain ⟨g1,g2,g3⟩:=run_good hY hl i h0
  have he:(match l[i]? with|none=>0|some a=>(stY (runI Y0 l i) a).1)=0:=by
   have he:(if runE Y0 l i≠0 then runE Y0 l i else match l[i]? with|none=>0|some a=>(stY (runI Y0 l i) a).1)=0:=he
   rw [if_neg (by rw [h0];decide)] at he
   exact he
  rw [show runI Y0 l (i+1)=match l[i]? with|none=>runI Y0 l i|some a=>(stY (runI Y0 l i) a).2 from rfl]
  cases hx:l[i]? with
  | none=>exact ⟨g1,g2,g3⟩
  | some x=>
   rw [hx] at he
   dsimp only at he ⊢
   obtain ⟨p1,p2,p3⟩:=hl x (List.mem_of_getElem? hx)
   generalize runI Y0 l i=Y at *
   unfold stY at he ⊢
   cases hy:Y[x.1.toNat]? with
   | none=>exact ⟨g1,g2,g3⟩
   | some y=>
    rw [hy] at he
    dsimp only at he ⊢
    have hgy:=g1 y (List.mem_of_getElem? hy)
    obtain ⟨k,d,a,b⟩:=x
    unfold mayA at p3
    obtain ⟨q1,q2⟩:=stD_good hgy p1 p2 (fun h=>(p3.2.2.2 h).2) p3.2.1 he
    refine ⟨fun z hz=>?_,by rw [List.length_set];exact g2,fun j z hz=>?_⟩
    ·rcases List.mem_or_eq_of_mem_set hz with h|rfl
     ·exact g1 z h
     ·exact q1
    ·by_cases hj:k.toNat=j
     ·subst hj
      dsimp only at hy hz
      rw [List.getElem?_set_self (List.getElem?_eq_some_iff.1 hy).1] at hz
      cases hz
      obtain ⟨w,hw,hw2⟩:=g3 _ _ hy
      exact ⟨w,hw,by rw [q2];exact hw2⟩
     ·dsimp only at hz
      rw [List.getElem?_set_ne hj] at hz
      exact g3 j z hz
noncomputable def runV (ys:List DK) (l:List Act) (n:Int):AV:=if chN l (ys.map dkO)=0 then (if 0≤n∧n≤l.length then (if runE (ys.map twD) (l.take n.toNat) n.toNat=0 then .tup [.fz ys.length none (dkc (runI (ys.map twD) (l.take n.toNat) n.toNat)),.int .i64 0] else .tup [.nils,.int .i64 (runE (ys.map twD) (l.take n.toNat) n.toNat)]) else .tup [.nils,.int .i64 2]) else .tup [.nils,.int .i64 (chN l (ys.map dkO))]
noncomputable def runF:Fn (List DK×List Act×Int×Unit):=⟨.v dkV.sl (.v actC.sl (.v i64C .nil)),fun _=>True,fun x=>runV x.1 x.2.1 x.2.2.1⟩
def cd85:AC:=match a150 with|.mk c _=>c
def cd86:AC:=match a151 with|.mk c _=>c
def cd87:AC:=match a152 with|.mk c _=>c
theorem twD_dsk {x:DK}(h:dskB x=true):dskB (twD x)=true:=by
 obtain ⟨r,r4,r5,r6⟩:=dskB_iff.1 h
 have hus:(twD x).us.length=x.us.length:=List.length_map ..
 have hws:(twD x).ws.length=x.ws.length:=List.length_map ..
 refine dskB_iff.2 ⟨by omega,r4,fun w hw=>?_,fun hd=>?_⟩
 ·obtain ⟨v,hv,rfl⟩:=List.mem_map.1 hw
  rw [hus];exact r5 v hv
 ·have:=r6 hd
  exact ⟨by omega,this.2⟩
theorem ch_ok {l:List Act}(hok:∀ y ∈ ys,y.ok) (h:chN l (ys.map dkO)=0):(1≤ys.length∧ys.length≤17)∧gdY ys∧(∀ a ∈ l,mayA (ys.map dkO) a):=by
 unfold chN at h
 split at h
 ·rename_i hd
  split at h
  ·cases h
  ·split at h
   ·rename_i hm
    refine ⟨by have:=hd.1;rw [List.length_map] at this;exact this,fun y hy=>⟨hok y hy,?_⟩,hm⟩
    have:=hd.2 (dkO y) (List.mem_map.2 ⟨y,hy,rfl⟩)
    rw [← dk_iff (dkO_of (hok y hy).a)] at this
    exact this
   ·cases h
 ·cases h
def runP (ys:List DK) (l:List Act) (n:Int) (u:AV) (st:St):Prop:=(runV ys l n=u∧∃ z,u=.tup [.nils,.int .i64 z])∨(chN l (ys.map dkO)=0∧(0≤n∧n≤l.length)∧runE (ys.map twD) (l.take n.toNat) n.toNat=0∧gdY (runI (ys.map twD) (l.take n.toNat) n.toNat)∧u=.tup [.sl 0 0 ys.length none,.int .i64 0]∧st.get 0=some (.row 74 (dkc (runI (ys.map twD) (l.take n.toNat) n.toNat))))
set_option maxHeartbeats 2000000 in
theorem run_C (hE:EM P e) (h36:Con e 34 achF.O) (h37:Con e 75 (relS twsR)) (h38:Inl e 76 cd38 [.tmp 2]) (h63:Con e 44 fuaF.O) (h85:Inl e 150 cd85 [.cells 4 3,.tmp 5]) (h86:Inl e 151 cd86 [.cells 4 3,.tmp 5]) (h87:Inl e 152 cd87 [.cells 4 3,.tmp 5]) (h140:Con e 235 dwF.O) (h141:Con e 236 fluF.O)  {l:List Act}{n:Int}{w:AV}(hL:Ls dkV ys v) (hA:Ls actC l w):C P 21 [v,w,.int .i64 n] St0 (runP ys l n):=by
 have hvf:=hL.hf
 have hwf:=hA.hf
 have hoks:∀ y ∈ ys,y.ok:=fun y hy=>by obtain ⟨l,-,h⟩:=hL.mem hy;exact h
 obtain ⟨cs,hs',hl',-⟩:=hA.nth
 refine C.of_G hE g21 ?_
 have hch:∀ (Q:AV->St->Prop) s,Q (.int .i64 (chN l (ys.map dkO))) s->ESc e 34 [w,v] s Q:=fun Q s k=>Fn.u (F:=achF) h36 (l,ys.map dkO,()) ⟨_,_,rfl,⟨_,rfl,hA⟩,_,_,rfl,⟨_,rfl,lsV_C hL⟩,rfl⟩ (fun d hd=>by
  obtain ⟨y,hy,rfl⟩:=List.mem_map.1 hd
  have h1:=hoks y hy
  refine ⟨by have h2:=h1.n;rw [h1.a.bs.length] at h2;exact h2,by show (List.map _ y.ws).length<_;rw [List.length_map];exact h1.m,h1.b,fun w hw=>?_⟩
  obtain ⟨x,hx,rfl⟩:=List.mem_map.1 hw
  exact h1.w x hx) k
 have fin:∀ st z,runV ys l n=.tup [.nils,.int .i64 z]->runP ys l n (.tup [.nils,.int .i64 z]) st:=fun st z h=>.inl ⟨h,_,rfl⟩
 have fin2:chN l (ys.map dkO)=0->(0≤n∧n≤l.length)->runE (ys.map twD) (l.take n.toNat) n.toNat=0->gdY (runI (ys.map twD) (l.take n.toNat) n.toNat)->∀ st,st.get 0=some (.row 74 (dkc (runI (ys.map twD) (l.take n.toNat) n.toNat)))->runP ys l n (.tup [.sl 0 0 ys.length none,.int .i64 0]) st:=fun a b c d st h=>.inr ⟨a,b,c,d,rfl,h⟩
 change VW P e 0 _ (initT [v,w,.int .i64 n] 0 .lf) St0 none [] (EEnd _ (runP ys l n))
 generalize runP ys l n=K at *
 by_cases hc:chN l (ys.map dkO)=0
 ·obtain ⟨hn17,hgd,hmy⟩:=ch_ok hoks hc
  have hO:runV ys l n=if 0≤n∧n≤l.length then (if runE (ys.map twD) (l.take n.toNat) n.toNat=0 then .tup [.fz ys.length none (dkc (runI (ys.map twD) (l.take n.toNat) n.toNat)),.int .i64 0] else .tup [.nils,.int .i64 (runE (ys.map twD) (l.take n.toNat) n.toNat)]) else .tup [.nils,.int .i64 2]:=by unfold runV;rw [if_pos hc]
  rw [hc] at hch
  by_cases hn:0≤n∧n≤l.length
  ·rw [if_pos hn] at hO
   obtain ⟨m,rfl⟩:∃ m:Nat,n=m:=⟨n.toNat,by omega⟩
   rw [Int.toNat_natCast] at hO
   have hml:m≤l.length:=by omega
   have htl:(l.take m).length=m:=by rw [List.length_take];omega
   have htw:∀ (Q:AV->St->Prop) s,(∀ s',s'=s.alloc (.row 74 (dkc (ys.map twD)))->Q (.sl s.next 0 ys.length none) s')->ESc e 75 [v] s Q:=fun Q s k=>by
    refine ESc.relS h37 (u:=.sl s.next 0 ys.length none) (s':=s.alloc (.row 74 (tws ys))) ⟨v,ys,rfl,hL,⟨hn17.1,by omega⟩,fun y hy=>(dskB_iff.1 (hgd y hy).2).1.1,rfl,rfl⟩ ?_
    rintro u s' ⟨v',ys',e1,hL',-,-,rfl,rfl⟩
    cases e1
    rw [hL'.inj hL]
    exact k _ (by rw [tws_dkc])
   have hg0:gdY (ys.map twD):=fun y hy=>by
    obtain ⟨x,hx,rfl⟩:=List.mem_map.1 hy
    exact ⟨twD_ok (hgd x hx).1,twD_dsk (hgd x hx).2⟩
   have hY0:(ys.map twD).length=ys.length:=List.length_map ..
   have hact:∀ x ∈ l.take m,i64B x.2.2.1∧(∀ z ∈ x.2.2.2,z<256)∧mayA (ys.map dkO) x:=fun x hx=>by
    have hx:=List.mem_of_mem_take hx
    obtain ⟨c,hc⟩:=hA.mem hx
    have hm:=hmy x hx
    obtain ⟨k,d,a,b⟩:=x
    obtain ⟨u,-,-,-,h3,h4⟩:=act_of hc
    exact ⟨h3,h4.b.2,hm⟩
   have hrg:=run_good hg0 hact
   have hmm:∀ i,i<m->runE (ys.map twD) (l.take m) (i+1)≠0->∀ st,K (.tup [.nils,.int .i64 (runE (ys.map twD) (l.take m) (i+1))]) st:=fun i hi he st=>by
    refine fin st _ ?_
    have:=runE_mono he m (by omega)
    rw [hO,if_neg (by rw [this];exact he),this]
   have hend:runE (ys.map twD) (l.take m) m=0->∀ st,st.get 0=some (.row 74 (dkc (runI (ys.map twD) (l.take m) m)))->K (.tup [.sl 0 0 ys.length none,.int .i64 0]) st:=fun he st hg=>fin2 hc hn he (hrg m he).1 st hg
   generalize hYY:ys.map twD=Y0 at *
   clear hO hc
   conv=>whnf
   repeat' (first|(refine htw _ _ (fun s' hs'=>?_);subst hs';conv=>whnf)|((first|refine hch _ _ ?_|refine EPrim.lenZ rfl hs' ?_|refine EPrim.slcP rfl hA rfl rfl hml (fun u hu=>?_));conv=>whnf)|refine nq1 ?_ ?_|refine nq3 ?_ ?_|refine nq6 ?_ ?_|(intro _;first|omega|conv=>whnf))
   generalize hA0:l.take m=A at *
   obtain ⟨us,hus,hul,hun⟩:=hu.nth
   have huf:=hu.hf
   refine nq21 hus ?_
   rw [htl]
   conv=>whnf
   skip
   refine W.up hE m (fun i=>[(9,.sl 0 0 ys.length none),(33,u),(34,.int .i64 (m:Int)),(35,.int .i64 (i:Int))]) (fun i=>[.row 74 (dkc (runI Y0 A i))]) (fun i=>runE Y0 A i=0) rfl (Abs.tells (rs:=[0]) ⟨by decide,⟨r9,t9,r9,r9,trivial⟩,⟨o9 (dkc_hf fun y hy=>((hrg 0 rfl).1 y hy).1),trivial⟩⟩) ?_
   intro i hi hI
   by_cases hlt:i<m
   ·obtain ⟨⟨k,d,a,b⟩,c,r,hx,hxr,hd⟩:=hun i (by omega)
    obtain ⟨bv,rfl,i1,i2,i3,hb⟩:=act_of hxr
    obtain ⟨j1,j2,hmay⟩:=hact _ (List.mem_of_getElem? hx)
    unfold mayA at hmay
    obtain ⟨⟨m1,m2⟩,m3,m4,m5⟩:=hmay
    rw [List.length_map] at m2
    dsimp only at j1 j2
    obtain ⟨g1,g2,g3⟩:=hrg i hI
    have hm1:runI Y0 A (i+1)=(stY (runI Y0 A i) (k,d,a,b)).2:=by
     show (match A[i]? with|none=>runI Y0 A i|some a=>(stY (runI Y0 A i) a).2)=_
     rw [hx]
    have hm2:runE Y0 A (i+1)=(stY (runI Y0 A i) (k,d,a,b)).1:=by
     show (if runE Y0 A i≠0 then runE Y0 A i else match A[i]? with|none=>0|some a=>(stY (runI Y0 A i) a).1)=_
     rw [if_neg (by rw [hI];decide),hx]
    have hre:=hmm i hlt
    have hgn:=hrg (i+1)
    rw [hm1,hm2] at hgn
    rw [hm2] at hre
    rw [hm1,hm2]
    generalize runI Y0 A i=Y at *
    obtain ⟨y,hy⟩:∃ y,Y[k.toNat]?=some y:=⟨_,List.getElem?_eq_getElem (by omega)⟩
    have hgy:=g1 y (List.mem_of_getElem? hy)
    unfold stY at hre hgn ⊢
    dsimp only at hre hgn ⊢
    rw [hy] at hre hgn ⊢
    dsimp only at hre hgn ⊢
    have hlk:k.toNat*3+3≤(dkc Y).length:=by rw [dkc_len];omega
    have hld:((dkc Y).drop (k.toNat*3)).take 3=y.c:=by rw [dkc_drop hy];exact List.take_left' rfl
    have hset:=fun z=>dkc_set (ys:=Y) (i:=k.toNat) (y:=z) (by omega)
    conv=>whnf
    repeat' (first|((first|refine EPrim.ixsL rfl hus rfl (show i<A.length by omega) hd ?_|refine ETake.eq (cs:=[.int .i64 k,.int .u8 (d:Int),.int .i64 a,bv]) rfl ?_|refine EPrim.ixsPZ rfl rfl m1 m2 ?_);conv=>whnf)|refine nq1 ?_ ?_|(intro _;first|omega|conv=>whnf))
    have huf':=hb.hf
    cases hdd:y.dead with
    | true=>
     have hst:stD y (k,d,a,b)=(0,y):=by unfold stD;dsimp only;rw [if_pos hdd]
     rw [hst] at hre hgn ⊢
     have hsy:Y.set k.toNat y=Y:=by rw [← List.getElem?_eq_some_iff.1 hy |>.2];exact List.set_getElem_self ..
     dsimp only at hre hgn ⊢
     rw [hsy]
     have hhf:=dkc_hf fun y hy=>(g1 y hy).1
     have hyc:y.c=[y.bv,y.wv,.bool true]:=by rw [← hdd];rfl
     refine stuckO [y.bv,y.wv,.bool true] (by show load 0 (0+k.toNat*3) 3 _=_;rw [Nat.zero_add,load_of (e:=74) (cs:=dkc Y) rfl hlk,hld,hyc]) ?_;conv=>whnf
     repeat' (first|((first|refine nq7 ?_|refine ⟨rfl,?_⟩);conv=>whnf)|fail)
     refine ⟨hlt,rfl,Abs.tells (rs:=[0]) .a⟩
    | false=>
     have hst:stD y (k,d,a,b)=(if d=1 then (dwE (stX y a b),dwD (stX y a b)) else if d=2 then (wrtE y a b,fuaD (stX y a b)) else (flE y,flD y)):=by unfold stD;dsimp only;rw [if_neg (by rw [hdd];decide)]
     have hyc:y.c=[y.bv,y.wv,.bool false]:=by rw [← hdd];rfl
     have hk:d≠3->DKW.ok ⟨y,a,bv,b⟩:=fun h=>⟨hgy.1,j1,hb.b,by have:=(m5 h).2;unfold sized at this;show b.length<_;omega⟩
     obtain ⟨E,D,z1,z2,z3,hED,hz,c1,c2,c3⟩:∃ E D z1 z2 z3,stD y (k,d,a,b)=(E,D)∧(E=0->[z1,z2,z3]=D.c)∧(d=1->∀ (Q:AV->St->Prop) s,Q (.tup [.agg [z1,z2,z3],.int .i64 E]) s->ESc e 235 [.agg y.c,.int .i64 a,bv] s Q)∧(d=2->∀ (Q:AV->St->Prop) s,Q (.tup [.agg [z1,z2,z3],.int .i64 E]) s->ESc e 44 [.agg y.c,.int .i64 a,bv] s Q)∧(d=3->∀ (Q:AV->St->Prop) s,Q (.tup [.agg [z1,z2,z3],.int .i64 E]) s->ESc e 236 [.agg y.c] s Q):=by
      have q:∀ (E:Int) (D:DK),∃ z1 z2 z3,(E=0->[z1,z2,z3]=D.c)∧(if E=0 then .tup [D.v,.int .i64 0] else .tup [.agg zDk,.int .i64 E]:AV)=.tup [.agg [z1,z2,z3],.int .i64 E]:=fun E D=>by
       by_cases h:E=0
       ·exact ⟨_,_,_,fun _=>rfl,by rw [if_pos h,h];rfl⟩
       ·exact ⟨_,_,_,fun g=>absurd g h,by rw [if_neg h];rfl⟩
      obtain rfl|rfl|rfl:d=1∨d=2∨d=3:=by omega
      ·obtain ⟨z1,z2,z3,p1,p2⟩:=q (dwE (stX y a b)) (dwD (stX y a b))
       exact ⟨_,_,z1,z2,z3,hst,p1,fun _ Q s k=>ESc.fam dwF h140 ⟨y,a,bv,b⟩ (hk (by decide)) p2 k,fun h=>(by cases h),fun h=>(by cases h)⟩
      ·obtain ⟨z1,z2,z3,p1,p2⟩:=q (wrtE y a b) (fuaD (stX y a b))
       exact ⟨_,_,z1,z2,z3,hst,p1,fun h=>(by cases h),fun _ Q s k=>ESc.fam fuaF h63 ⟨y,a,bv,b⟩ (hk (by decide)) p2 k,fun h=>(by cases h)⟩
      ·obtain ⟨z1,z2,z3,p1,p2⟩:=q (flE y) (flD y)
       exact ⟨_,_,z1,z2,z3,hst,p1,fun h=>(by cases h),fun h=>(by cases h),fun _ Q s k=>ESc.fam fluF h141 y hgy.1 p2 k⟩
     rw [hED] at hre hgn ⊢
     dsimp only at hre hgn ⊢
     rw [hyc] at c1 c2 c3
     clear hst hk
     obtain rfl|rfl|rfl:d=1∨d=2∨d=3:=by omega
     all_goals
      refine stuckO [y.bv,y.wv,.bool false] (by show load 0 (0+k.toNat*3) 3 _=_;rw [Nat.zero_add,load_of (e:=74) (cs:=dkc Y) rfl hlk,hld,hyc]) ?_;conv=>whnf
      repeat' (first|((first|refine ESc.inl h38 ?_|refine EPrim.ixaZ rfl rfl (by omega) (by omega) ?_|refine ECall.inl h85.O h85.G ?_|refine ECall.inl h86.O h86.G ?_|refine ECall.inl h87.O h87.G ?_|refine c1 rfl _ _ ?_|refine c2 rfl _ _ ?_|refine c3 rfl _ _ ?_|refine EPrim.ixsPZ rfl rfl m1 m2 ?_|refine stuckO _ (by show storeAt 0 (0+k.toNat*3) [z1,z2,z3] _=_;rw [Nat.zero_add];exact store_of (e:=74) (cs:=dkc Y) rfl hlk) ?_|refine nq7 ?_|refine nq14 ?_|refine ⟨rfl,?_⟩);conv=>whnf)|refine nq4 ?_ ?_|refine nq6 ?_ ?_|(intro _;first|omega|conv=>whnf))
      ·exact hre (by assumption) _
      ·rename_i he
       have hz:=hz he
       have hhf:=dkc_hf fun y hy=>((hgn he).1 y hy).1
       exact ⟨hlt,he,Abs.tells (rs:=[0]) ⟨by decide,⟨r9,t9,r9,r9,trivial⟩,⟨⟨rowH hhf,by rw [mapRowH hhf,← hset D,← hz];rfl⟩,trivial⟩⟩⟩
   ·have him:i=m:=by omega
    subst him
    conv=>whnf
    repeat' (first|refine nq1 ?_ ?_|(intro _;first|omega|conv=>whnf))
    exact hend hI _ rfl
  ·rw [if_neg hn] at hO
   conv=>whnf
   repeat' (first|((first|refine hch _ _ ?_|refine EPrim.lenZ rfl hs' ?_);conv=>whnf)|refine nq1 ?_ ?_|refine nq3 ?_ ?_|refine nq6 ?_ ?_|(intro _;first|omega|conv=>whnf))
   all_goals exact fin _ _ hO
 ·have hO:runV ys l n=.tup [.nils,.int .i64 (chN l (ys.map dkO))]:=by unfold runV;rw [if_neg hc]
  generalize chN l _=A at *
  conv=>whnf
  repeat' (first|(refine hch _ _ ?_;conv=>whnf)|refine nq6 ?_ ?_|(intro _;first|omega|conv=>whnf))
  all_goals first
   | exact absurd (by assumption) hc
   | exact fin _ _ hO
theorem run_ok0 {l:List Act}{n:Int}{st:St}(h:runP ys l n u st):Frz st u (runV ys l n):=by
 rcases h with ⟨h,z,rfl⟩|⟨h1,h2,h3,h4,rfl,h5⟩
 ·rw [h];exact .plain _ rfl
 ·unfold runV
  rw [if_pos h1,if_pos h2,if_pos h3]
  exact .tup _ _ (.cons (.sl 0 0 _ _ _ 74 _ _ _ h5 (fun j x hx=>by rw [Nat.zero_add];exact hx) (frz_hfs (dkc_hf fun y hy=>(h4 y hy).1)) (.inl rfl)) (.cons (.plain _ rfl) .nil))
theorem runF_ok (hE:EM P e) (h36:Con e 34 achF.O) (h37:Con e 75 (relS twsR)) (h38:Inl e 76 cd38 [.tmp 2]) (h63:Con e 44 fuaF.O) (h85:Inl e 150 cd85 [.cells 4 3,.tmp 5]) (h86:Inl e 151 cd86 [.cells 4 3,.tmp 5]) (h87:Inl e 152 cd87 [.cells 4 3,.tmp 5]) (h140:Con e 235 dwF.O) (h141:Con e 236 fluF.O):OvOk P 21 runF.O:=by
 refine Fn.mk_ok g21.b ?_
 rintro ⟨ys,l,n,_⟩ _ ⟨v,_,rfl,⟨_,e0,hL⟩,w,_,rfl,⟨_,e1,hA⟩,_,_,rfl,⟨e2,z2⟩,rfl⟩ -
 cases e0
 cases e1
 cases e2
 refine ⟨?_,(run_C hE h36 h37 h38 h63 h85 h86 h87 h140 h141 hL hA).mono fun _ _ h=>run_ok0 h⟩
 show AM.hf (runV ys l n)=true
 unfold runV;split
 ·split
  ·split <;> rfl
  ·rfl
 ·rfl
theorem on_nat (hM:c.may) {s:Int}(hs:0≤s) (k:Nat):(onM c s (k:Int)).toNat=((s / c.chunk*(c.members-1)).toNat+k) % c.members.toNat∧(onM c s (k:Int)).toNat<c.members.toNat∧0≤onM c s (k:Int):=by
 unfold Cfg.may at hM
 have h0:0≤s / c.chunk:=Int.ediv_nonneg hs (by omega)
 have h1:0≤s / c.chunk*(c.members-1):=Int.mul_nonneg h0 (by omega)
 unfold onM
 generalize s / c.chunk*(c.members-1)=r at *
 obtain ⟨R,rfl⟩:∃ R:Nat,r=R:=⟨r.toNat,by omega⟩
 obtain ⟨m,hm⟩:∃ m:Nat,c.members=m:=⟨c.members.toNat,by omega⟩
 have hm3:3≤m:=by omega
 rw [hm]
 have e:((R:Int)+(k:Int)) % (m:Int)=(((R+k) % m:Nat):Int):=by rw [Int.natCast_emod];rfl
 rw [e,Int.toNat_natCast,Int.toNat_natCast,Int.toNat_natCast]
 exact ⟨rfl,Nat.mod_lt _ (by omega),by omega⟩
def seI (D:List Dk) (a:Int) (i:Nat):List Nat:=(D[i]?.map fun d=>seenC d a).getD []
theorem memM {s:Int}(hm:0<c.members):onM c s k=(c.members-1-s / c.chunk % c.members+1+k) % c.members:=by
 unfold onM
 generalize s / c.chunk=q
 have h:=Int.mul_ediv_add_emod q c.members
 generalize hr:q % c.members=r at *
 generalize hd:q / c.members=d at *
 generalize c.members=M at *
 subst h
 have e:(M*d+r)*(M-1)+k=(M-1-r+1+k)+M*(d*(M-1)+r-1):=by
  have e1:(M*d+r)*(M-1)=M*d*(M-1)+r*(M-1):=Int.add_mul ..
  have e2:M*(d*(M-1)+r-1)=M*(d*(M-1))+M*r-M*1:=by rw [Int.mul_sub,Int.mul_add]
  have e3:M*d*(M-1)=M*(d*(M-1)):=Int.mul_assoc ..
  have e4:r*(M-1)=r*M-r*1:=Int.mul_sub ..
  have e5:r*M=M*r:=Int.mul_comm ..
  rw [e1,e2,e3,e4,e5]
  omega
 rw [e,Int.add_mul_emod_self_left]
def cd90':AC:=match a74 with|.mk c _=>c
noncomputable def mmbF:Fn (Cfg×Int×Int×Unit):=⟨.g cfgC (.v i64C (.v i64C .nil)),fun x=>x.1.may∧(0≤x.2.1∧x.2.1<stripesN x.1)∧0≤x.2.2.1∧x.2.2.1<x.1.members,fun x=>.tup [.int .i64 (onM x.1 x.2.1 x.2.2.1),.int .i64 0]⟩
theorem mmbF_ok (hE:EM P e) (h40:Con e 77 stripesF.O) (h89:Inl e 73 cd89 [.tmp 4,.tmp 5]) (h98:Inl e 183 cd98 [.cells 8 7,.tmp 9]) (h99:Inl e 149 cd99 [.tmp 2]) (h90:Inl e 74 cd90' [.tmp 4]):OvOk P 97 mmbF.O:=by
 refine Fn.mk_ok g97.b ?_
 rintro ⟨c,s,m,_⟩ _ ⟨_,_,rfl,⟨rfl,hc⟩,_,_,rfl,⟨e1,z1⟩,_,_,rfl,⟨e2,z2⟩,rfl⟩ ⟨hM,hs0,hm0⟩
 cases e1
 cases e2
 refine ⟨rfl,C.of_G hE g97 ?_⟩
 dsimp only at hM hs0 hc hm0
 have hst:=str_y h40 hc hM
 have hmm:=may_mul hM
 have hM':=hM
 unfold Cfg.may at hM'
 unfold stripesN at hs0 hmm
 have hmem:=memM (c:=c) (s:=s) (k:=m) (by omega)
 have fin:∀ st n,n=onM c s m->Frz st (.tup [.int .i64 n,.int .i64 0]) (mmbF.out (c,s,m,())):=by
  rintro st n rfl;exact .plain _ rfl
 generalize mmbF.out _=O at fin ⊢
 rw [hmem] at fin
 have hd0:=Int.ediv_nonneg hs0.1 (show 0≤c.chunk by omega)
 have hd1:s / c.chunk≤s:=Int.ediv_le_self _ hs0.1
 have hr0:=Int.emod_nonneg (s / c.chunk) (show c.members≠0 by omega)
 have hr1:=Int.emod_lt_of_pos (s / c.chunk) (show 0<c.members by omega)
 change VW P e 0 _ (initT [.agg c.c,.int .i64 s,.int .i64 m] 0 .lf) St0 none [] _
 conv=>whnf
 repeat' (first|((first|refine ESc.inl h98 ?_|refine hst _ _ ?_|refine ESc.inl h89 ?_|refine ESc.inl h99 ?_|refine ESc.inl h90 ?_|refine EPrim.quoN rfl rfl (by omega) ?_|refine EPrim.remN rfl rfl (by omega) ?_|refine nq7 ?_|refine nq8 ?_|refine ⟨rfl,?_⟩);conv=>whnf)|refine nq1 ?_ ?_|refine nq4 ?_ ?_|refine nq6 ?_ ?_|(intro _;first|omega|conv=>whnf))
 exact fin _ _ rfl
def loC':Lo->List AV
 | (ev,lo,sp,po,dn,nl,br)=>[.int .u32 ev,.int .i64 lo,.bool sp,.int .i64 po,.int .i64 dn,.bool nl,.bool br]
end Go.AM
