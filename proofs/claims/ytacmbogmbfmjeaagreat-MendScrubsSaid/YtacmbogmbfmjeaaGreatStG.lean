/-
 Functions of the program as the abstract machine reads them, and what is stated of them, checked by the kernel. No conditions.
-/
import Derived.Test.YtacmbogmbfmjeaaGreatStA
import Derived.Test.YtacmbogmbfmjeaaGreatStF
import Derived.Test.YtacmbogmbfmjeaaGreatAM5
set_option linter.unusedVariables false
set_option linter.unusedSimpArgs false
set_option linter.unnecessarySimpa false
set_option maxRecDepth 100000
namespace Go.AM
attribute [local irreducible] W
open X
structure CLX where
 c:Cfg
 ag:Int
 sq:Int
 tl:Int
 us:Int
 v:AV
 n:Nat
 cs:List AV
structure CLX.ok (x:CLX):Prop where
 c:x.c.ok
 v:Sl 6 x.n x.cs x.v
 n:1000<x.n
def CLX.args (x:CLX):List AV:=[x.c.v,.agg [.int .u32 x.ag,.int .u32 x.sq,.int .i64 x.tl,.int .i64 x.us,x.v]]
def lchkX:Fam CLX:=⟨CLX.ok,CLX.args,fun _=>.int .i64 8,fun _ _ _ _ _=>rfl⟩
variable {e:Env}
theorem ZE (hE:EM P e) (h78:Con e 103 cfgF.O) (h79:Inl e 149 Ui [.tmp 2]) (h38:Con e 40 stripesF.O) (h53:Con e 185 needF.O) (h122:Inl e 186 Mh [.tmp 2]):OvOk P 105 lchkX.O:=by
 refine Ca g105.b ?_
 intro x hx
 have hvf:=hx.v.hf
 refine ⟨by show (true && ((true && (true && (true && (true && (AM.hf x.v && true))))) && true))=true;rw [hvf];rfl,rfl,C.of_G hE g105 ?_⟩
 have hout:lchkX.out x=.int .i64 8:=rfl
 rw [hout]
 by_cases hM:x.c.may
 ·have hlog:=G6 hM
  have hM':=hM
  unfold Cfg.may at hM'
  have hcfg:∀ (K:AV→St→Prop) (s:St),K (.int .i64 0) s→ESc e 103 [x.c.v] s K:=fun K s hk=>ESc.fam cfgF h78 x.c hx.c (by simp [cfgF,hM]) hk
  have hst:∀ (K:AV→St→Prop) (s:St),K (.tup [.int .i64 (x.c.chunk*x.c.rows),.int .i64 0]) s→ESc e 40 [x.c.v] s K:=fun K s hk=>ESc.fam stripesF h38 x.c hx.c (by simp [stripesF,hM]) hk
  have hnd:∀ (K:AV→St→Prop) (s:St),K (.tup [.int .i64 (x.c.members+1),.int .i64 0]) s→ESc e 185 [x.c.v] s K:=fun K s hk=>ESc.fam needF h53 x.c hx.c (by simp [needF,hM]) hk
  obtain ⟨⟨c1,c2,c3,c4,c5,c6⟩,ag,sq,tl,us,v,n,cs⟩:=x
  obtain ⟨hx1,hv,hn⟩:=hx
  dsimp only at hlog hM' hv hn
  conv=>whnf
  refine hcfg _ _ ?_;conv=>whnf
  repeat' (first|((refine w6 rfl rfl ?_ ?_) <;> intro _ <;> first|(exfalso;omega)|(conv=>whnf))|fail)
  refine ESc.inl h79 ?_;conv=>whnf
  refine hst _ _ ?_;conv=>whnf
  refine hnd _ _ ?_;conv=>whnf
  refine ESc.inl h122 (L4 e _ ag _ ?_)
  cases hA:FH ag <;> conv=>whnf
  ·repeat' (first|(refine w13 rfl ?_;conv=>whnf)|fail)
   exact .plain _ rfl
  repeat' (first|(refine w12 rfl ?_;conv=>whnf)|fail)
  refine ESc.inl h122 (L4 e _ sq _ ?_)
  cases hS:FH sq <;> conv=>whnf
  ·repeat' (first|(refine w13 rfl ?_;conv=>whnf)|fail)
   exact .plain _ rfl
  repeat' (first|(refine Ac rfl hv ?_;conv=>whnf)|((first|refine w1 rfl rfl ?_ ?_|refine w3 rfl rfl ?_ ?_|refine w4 rfl rfl ?_ ?_) <;> intro _ <;> first|(exfalso;omega)|(conv=>whnf))|((first|refine w12 rfl ?_|refine w13 rfl ?_);conv=>whnf)|fail)
  all_goals first|exact .plain _ rfl|(exfalso;dsimp only at *;omega)
 ·conv=>whnf
  refine ESc.fam cfgF h78 x.c hx.c (u:=.int .i64 8) (by simp [cfgF,hM]) ?_;conv=>whnf
  repeat' (first|((refine w6 rfl rfl ?_ ?_) <;> intro _ <;> first|(exfalso;omega)|(conv=>whnf))|fail)
  exact .plain _ rfl
def Jg (args:List AV) (u:AV):Prop:=(∃ x:CL,lchkF.ok x∧args=lchkF.enc x∧u=lchkF.out x)∨(∃ x:CLX,lchkX.ok x∧args=lchkX.enc x∧u=lchkX.out x)
theorem ZF (h1:OvOk P 105 lchkF.O) (h2:OvOk P 105 lchkX.O):OvOk P 105 (Bx Jg):=by
 have key:∀ {α:Type}(F:Fam α) (x:α),F.ok x→∀ s,F.O (F.enc x) s=.ok (F.out x) s:=fun F x hx s=>by
  have h:∃ u,∃ y,F.ok y∧F.enc x=F.enc y∧u=F.out y:=⟨_,x,hx,rfl,rfl⟩
  unfold Fam.O Bx
  rw [dif_pos h]
  obtain ⟨y,hy,e1,e2⟩:=Zku h
  rw [e2,← F.inj x y hx hy e1]
 refine Td h1.1 fun args u hR s=>?_
 rcases hR with ⟨x,hx,rfl,rfl⟩|⟨x,hx,rfl,rfl⟩
 ·exact h1.2 _ s _ _ (key lchkF x hx s)
 ·exact h2.2 _ s _ _ (key lchkX x hx s)
variable {x:CL}
theorem ZD {y:CLX}(hx:x.ok) (hy:y.ok) (h:x.args=y.args):False:=by
 have h1:=(Zjr (Zjr h).2).1
 have h2:x.v=y.v:=by
  have:=AV.agg.inj h1
  injection this with _ this
  injection this with _ this
  injection this with _ this
  injection this with _ this
  injection this
 have hn:=hy.n
 have hl:=hx.l.len
 have hv:Sl 6 x.l.live.length (Eg x.l.live) x.v:=hx.v
 rcases hv with ⟨e,e1,_⟩|⟨e,e1,_⟩|⟨c,e,_⟩ <;> rcases hy.v with ⟨f,f1,_⟩|⟨f,f1,_⟩|⟨d,f,_⟩ <;> rw [h2,f] at e <;> first|omega|(cases e;done)|skip
 injection e with e _ _
 omega
theorem Xj (h:Con e 105 (Bx Jg)) (hx:x.ok) {K:AV→St→Prop}{s:St}(hk:K (.int .i64 (if x.good then 0 else 8)) s):ESc e 105 x.args s K:=by
 refine ESc.rel h ⟨_,.inl ⟨x,hx,rfl,rfl⟩⟩ ?_
 rintro u (⟨y,hy,e1,rfl⟩|⟨y,hy,e1,rfl⟩)
 ·rw [← CL.inja hx hy e1];exact hk
 ·exact (ZD hx hy e1).elim
noncomputable def mlgF:Fn (List Lv×Unit):=bF (.v lvC.sl .nil) (fun _=>True) fun x=>Il x.1
def DD (L:List Lv):Nat→List Int
 | 0=>[]
 | i+1=>match L[i]? with
  | some x=>if x.home=true then DD L i else DA x.stripe (DD L i)
  | none=>DD L i
variable {k:Int}
theorem Zao {n:Int}{l:List Int}:n ∈ DA k l↔n=k∨n ∈ l:=by
 unfold DA
 split
 ·rename_i h
  exact ⟨.inr,fun h'=>h'.elim (fun e=>e ▸ h) id⟩
 ·simp [or_comm]
theorem ksH_mem {L:List Lv}{n:Int}:∀ {i:Nat},n ∈ DD L i↔∃ k,k<i∧∃ y,L[k]?=some y∧y.home=false∧y.stripe=n
 | 0=>⟨fun h=>(by cases h),fun ⟨k,h,_⟩=>(by omega)⟩
 | i+1=>by
  have ih:=@ksH_mem L n i
  have up:(∃ k,k<i∧∃ y,L[k]?=some y∧y.home=false∧y.stripe=n)→∃ k,k<i+1∧∃ y,L[k]?=some y∧y.home=false∧y.stripe=n:=fun ⟨k,h,g⟩=>⟨k,by omega,g⟩
  unfold DD
  cases hx:L[i]? with
  | none=>
   dsimp only
   rw [ih]
   refine ⟨up,fun ⟨k,h,y,g1,g2⟩=>?_⟩
   rcases Zk7.1 h with h|rfl
   ·exact ⟨k,h,y,g1,g2⟩
   ·rw [hx] at g1;cases g1
  | some x=>
   dsimp only
   split
   ·rename_i hh
    rw [ih]
    refine ⟨up,fun ⟨k,h,y,g1,g2⟩=>?_⟩
    rcases Zk7.1 h with h|rfl
    ·exact ⟨k,h,y,g1,g2⟩
    ·rw [hx] at g1;cases g1;rw [hh] at g2;cases g2.1
   ·rename_i hh
    rw [Zao,ih]
    constructor
    ·rintro (rfl|h)
     ·exact ⟨i,by omega,x,hx,by simpa using hh,rfl⟩
     ·exact up h
    ·rintro ⟨k,h,y,g1,g2,g3⟩
     rcases Zk7.1 h with h|rfl
     ·exact .inr ⟨k,h,y,g1,g2,g3⟩
     ·rw [hx] at g1;cases g1;exact .inl g3.symm
theorem Zb5 (hE:EM P e):OvOk P 54 mlgF.O:=by
 refine Bl hE g54 ?_
 rintro ⟨L,_⟩ _ ⟨v,_,rfl,⟨_,e0,hL⟩,rfl⟩-K t f
 cases e0
 dsimp only at t f hL
 obtain ⟨cs,hs',hl,hn⟩:=hL.lv
 have hvf:=hL.hf
 unfold Il at t f
 conv=>whnf
 repeat' (first|(refine Ac rfl hs' ?_;conv=>whnf)|fail)
 refine Jm hE (β:=List (AV×AV×Nat)×Nat) L.length (fun i b=>[(3,.map 0),(7,v),(8,.int .i64 (L.length:Int)),(9,.int .i64 (i:Int))]) (fun i b=>[.map b.1 b.2]) (fun i b=>KM (.int .i64 1) b.1 (DD L i)∧∀ j<i,∀ x,L[j]?=some x→¬(x.home=true∧x.stripe ∈ DD L j)) ([],0) ⟨KM.nil _,fun k h=>by omega⟩ (Abs.tells (rs:=[0]) ⟨by decide,⟨r9,t9,r9,r9,trivial⟩,⟨r9,trivial⟩⟩) ?_
 rintro i ⟨es,N⟩ hi ⟨hK,hI⟩
 dsimp only at hK hI ⊢
 by_cases hlt:i<L.length
 ·obtain ⟨sq,st,bl,pa,su,ho,r,hx,hx',hd⟩:=hn i hlt
  have hks:DD L (i+1)=if ho=true then DD L i else DA st (DD L i):=by
   show (match L[i]? with|some x=>if x.home=true then DD L i else DA x.stripe (DD L i)|none=>DD L i)=_
   rw [hx]
  have hstep:∀ h:¬(ho=true∧st ∈ DD L i),∀ j<i+1,∀ x,L[j]?=some x→¬(x.home=true∧x.stripe ∈ DD L j):=fun h=>AK hI fun x e=>by rw [hx] at e;cases e;exact h
  have hyes:ho=true→st ∈ DD L i→∀ s,K (.bool true) s:=fun h1 h2=>by
   obtain ⟨k,hk,y,g1,g2,g3⟩:=ksH_mem.1 h2
   exact t ⟨i,k,_,y,hk,hx,g1,h1,g3,g2⟩
  cases ho
  ·rw [Zjn Bool.false_ne_true] at hks
   conv=>whnf
   repeat' (first|(refine Ai rfl hs' rfl hlt hd ?_;conv=>whnf)|(refine Ay (cs:=[.int .u32 sq,.int .i64 st,.int .i64 bl,.bool pa,.bool su,.bool false]) rfl ?_;conv=>whnf)|(refine H0 rfl rfl rfl rfl hK (fun es' N' hK'=>?_);conv=>whnf)|((refine w1 rfl rfl ?_ ?_) <;> intro _ <;> first|(exfalso;omega)|(conv=>whnf))|((first|refine w7 rfl rfl (by omega) ?_|refine w13 rfl ?_|refine ⟨rfl,?_⟩);conv=>whnf)|fail)
   refine ⟨hlt,(es',N'),⟨by rw [hks];exact hK',hstep (fun q=>nomatch q.1)⟩,Abs.tells (rs:=[0]) ⟨by decide,⟨r9,t9,r9,r9,trivial⟩,⟨⟨Ds rfl hK',?_⟩,trivial⟩⟩⟩
   show _=some (AObj.map (BI _ es') N');rw [Dq rfl hK'];rfl
  ·rw [Zjj rfl] at hks
   conv=>whnf
   repeat' (first|(refine Ai rfl hs' rfl hlt hd ?_;conv=>whnf)|(refine Ay (cs:=[.int .u32 sq,.int .i64 st,.int .i64 bl,.bool pa,.bool su,.bool true]) rfl ?_;conv=>whnf)|(refine H1 rfl rfl rfl hK (fun hin=>?_) (fun hin=>?_) <;> conv=>whnf)|((first|refine w1 rfl rfl ?_ ?_|refine w3 rfl rfl ?_ ?_) <;> intro _ <;> first|(exfalso;omega)|(conv=>whnf))|((first|refine w7 rfl rfl (by omega) ?_|refine w12 rfl ?_|refine ⟨rfl,?_⟩);conv=>whnf)|fail)
   all_goals first
    | exact hyes rfl hin _
    | (refine ⟨hlt,(es,N),⟨by rw [hks];exact hK,hstep (fun q=>hin q.2)⟩,Abs.tells (rs:=[0]) ⟨by decide,⟨r9,t9,r9,r9,trivial⟩,⟨⟨Ds rfl hK,?_⟩,trivial⟩⟩⟩
       show _=some (AObj.map (BI _ es) N);rw [Dq rfl hK];rfl)
 ·conv=>whnf
  repeat' (first|((refine w1 rfl rfl ?_ ?_) <;> intro _ <;> first|(exfalso;omega)|(conv=>whnf))|fail)
  refine f ?_ _
  rintro ⟨j,k,x,y,h1,h2,h3,h4,h5,h6⟩
  have hj:=(Zjg.1 h2).1
  exact hI j (by omega) x h2 ⟨h4,ksH_mem.2 ⟨k,h1,y,h3,h6,h5⟩⟩
variable {L:List Lv}{s:Int}
theorem Y2:IV L s↔FK L s=true∧(Db L s).par=false:=by
 have hlt:=HA L s L.length
 unfold IV FK Db
 rw [decide_eq_true_iff]
 constructor
 ·rintro ⟨h0,h1⟩
  rw [Zjj h0]
  obtain ⟨x,hx⟩:∃ x,L[(AZ L s L.length).toNat]?=some x:=⟨_,Zjf (by omega)⟩
  exact ⟨h0,by rw [hx];exact h1 x hx⟩
 ·rintro ⟨h0,h1⟩
  rw [Zjj h0] at h1
  exact ⟨h0,fun x hx=>by rw [hx] at h1;exact h1⟩
variable {sq:Int}
theorem Y4 {st:Int}{bl:List (List Nat)}{di:List Bool}{ph:Nat}{de:Bool}:CM L (st,bl,di,ph,de,sq)↔(de=true↔FK L st=true∧(Db L st).par=false)∧(2≤ph→FK L st=true∧(Db L st).seq=sq∧(Db L st).par=true∧(Db L st).home=false∧((Db L st).sure=true↔ph≠2)):=by
 have hlt:=HA L st L.length
 unfold CM
 dsimp only
 rw [Y2]
 refine and_congr_right fun _=>imp_congr_right fun _=>?_
 unfold FK Db
 rw [decide_eq_true_iff]
 constructor
 ·rintro ⟨h0,h1⟩
  rw [Zjj h0]
  obtain ⟨x,hx⟩:∃ x,L[(AZ L st L.length).toNat]?=some x:=⟨_,Zjf (by omega)⟩
  rw [hx]
  exact ⟨h0,h1 x hx⟩
 ·rintro ⟨h0,h1⟩
  rw [Zjj h0] at h1
  exact ⟨h0,fun x hx=>by rw [hx] at h1;exact h1⟩
noncomputable def mstF:Fn (Dv×Hd×Unit):=bF (.g dvC (.g hdC .nil)) (fun _=>True) fun x=>CM x.1.2.2.2.2.1.2.2.2.2 x.2.1
set_option maxHeartbeats 2000000 in
theorem Zb2 (hE:EM P e) (h58:Con e 58 mlsF.O):OvOk P 57 mstF.O:=by
 refine Bl hE g57 ?_
 rintro ⟨⟨c,bk,⟨ev,lo,sp,po,dn,nl,br⟩,hs,⟨ag,sq,tl,us,L⟩,fs,nx,so⟩,⟨st,bl,di,ph,de,hq⟩,_⟩ _ ⟨_,_,rfl,hd,_,_,rfl,hh,rfl⟩-K t f
 have hst:=(Cf hh).choose_spec.choose_spec.2.1
 have hml:=fun (Q:AV→St→Prop) s' k=>@Fn.u _ e 58 s' Q mlsF [.agg _,.int .i64 st] h58 (_,st,()) ⟨_,_,rfl,hd,_,_,rfl,⟨rfl,Bg hst⟩,rfl⟩ trivial k
 obtain ⟨hv,lv,fv,rfl,⟨ho,o1,o2,o3,o4,o5,o6,o7,o8,oN⟩,hH,hL,hF⟩:=BE hd
 obtain ⟨bv,dv,rfl,g1,g2,g3,g4,g5⟩:=Cf hh
 dsimp only at t f
 rw [Y4] at t f
 unfold mlsF at hml
 dsimp only at hml
 generalize FK L st=B at *
 generalize Db L st=x at *
 obtain ⟨xq,xs,xb,xp,xu,xh⟩:=x
 replace hml:∀ (Q:AV→St→Prop) s',Q (.tup [.agg [.int .u32 xq,.int .i64 xs,.int .i64 xb,.bool xp,.bool xu,.bool xh],.bool B]) s'→ESc e 58 _ s' Q:=hml
 dsimp only at t f
 clear hd hh hst hH hL hF
 change VW P e 0 _ (Al [_,.agg [.int .i64 st,bv,dv,.int .u8 (ph:Int),.bool de,.int .u32 hq]] 0 .lf) St0 none [] _
 cases B <;> cases xp <;> cases de <;> cases xu <;> cases xh
 all_goals
  conv=>whnf
  repeat' (first|(refine hml _ _ ?_;conv=>whnf)|((first|refine w2 rfl rfl ?_ ?_|refine w3 rfl rfl ?_ ?_|refine w5 rfl rfl ?_ ?_) <;> intro _ <;> first|(exfalso;omega)|(conv=>whnf))|((first|refine w12 rfl ?_|refine w13 rfl ?_|refine w15 rfl rfl ?_);conv=>whnf)|fail)
  all_goals first
   | exact t (by simp <;> omega) _
   | exact f (by simp <;> omega) _
   | fail
def lgG (c:Cfg):Lg→Prop
 | (ag,sq,tl,us,L)=>c.may∧DW ⟨⟨ag,sq,tl,us,L⟩,c⟩=true
variable {v:AV}
theorem Ls.lsl (h:Ls lvC L v):LSl L v∧∀ x ∈ L,x.ok:=by
 obtain ⟨ls,a,s,_⟩:=h
 have key:∀ {L:List Lv}{ls:List (List AV)},All2 lvC.r L ls→ls.flatten=Eg L∧∀ x ∈ L,x.ok:=by
  intro L
  induction L with
  | nil=>intro _ h;cases h;exact ⟨rfl,fun x hx=>by cases hx⟩
  | cons x L ih=>
   intro _ h
   cases h with
   | cons h1 h2=>
    obtain ⟨e,g⟩:=ih h2
    obtain ⟨rfl,hx⟩:=h1
    refine ⟨by rw [List.flatten_cons,e];rfl,fun y hy=>?_⟩
    rcases Zkp.1 hy with rfl|hy
    ·exact hx
    ·exact g y hy
 obtain ⟨e,g⟩:=key a
 rw [e] at s
 exact ⟨s,g⟩
variable {c:Cfg}{ag tl us:Int}
theorem Zcc (h105:Con e 105 (Bx Jg)) (hc:c.ok) (o5:Bm ag) (o6:Bm sq) (o7:Ad tl) (o8:Ad us) (hL:Ls lvC L v) (hn:L.length≤1000) (Q:AV→St→Prop) (s:St) (y:lgG c (ag,sq,tl,us,L)→Q (.int .i64 0) s) (n:¬lgG c (ag,sq,tl,us,L)→Q (.int .i64 8) s):ESc e 105 [.agg c.c,.agg [.int .u32 ag,.int .u32 sq,.int .i64 tl,.int .i64 us,v]] s Q:=by
 obtain ⟨h1,h2⟩:=hL.lsl
 refine Xj (x:=⟨c,⟨ag,sq,tl,us,L⟩,v⟩) h105 ⟨hc,⟨o5,o6,o7,o8,h2,hn⟩,h1⟩ ?_
 by_cases h:CL.good ⟨c,⟨ag,sq,tl,us,L⟩,v⟩
 ·rw [Zjj h];exact y h
 ·rw [Zjn h];exact n h
def Zi8:AC:=match N5 with|.mk c _=>c
noncomputable def ix108:Fn (List Fl×(Dv×Unit)×Unit):=Cp ftC 108 (.p dvC .nil) (fun _ _=>True) fun d f=>d.1.2.2.2.2.2.2.1≤f.1
theorem Zei (h108:Inl e 108 Zi8 [.tmp 3]):Es e ftC AV.agg 108 (.p dvC .nil) (fun _ _=>True) (fun (d:Dv×Unit) f=>d.1.2.2.2.2.2.2.1≤f.1):=by
 rintro ⟨⟨c,bk,⟨ev,lo,sp,po,dn,nl,br⟩,hs,⟨ag,sq,tl,us,L⟩,fs,nx,so⟩,_⟩ q xs ⟨n,⟨k,a,m,d⟩,st,sqs,da⟩ l ⟨_,_,rfl,hd,rfl⟩ _ _ hx Q t f
 obtain ⟨hv,lv,fv,rfl,ho,hH,hL,hF⟩:=BE hd
 obtain ⟨dv,tv,qv,av,rfl,-⟩:=CW hx
 dsimp only at t f
 refine ECall.inl h108.O h108.G ?_;conv=>whnf
 repeat' (first|(refine EHead.mk rfl ?_;conv=>whnf)|((refine w4 rfl rfl ?_ ?_) <;> intro _ <;> first|(exfalso;omega)|(conv=>whnf))|fail)
 all_goals first
  | exact t (by assumption) _
  | exact f (by omega) _
def Ij:Dv→Prop
 | (c,_,o,hs,lg,fs,nx,_)=>c.may∧DO c o∧BX c hs∧lgG c lg∧Eu c fs∧(1≤nx∧nx≤2147483648)∧¬∃ f ∈ fs,nx≤f.1
noncomputable def mprF:Fn (Dv×Unit):=bF (.g dvC .nil) (fun x=>x.1.2.2.2.2.1.2.2.2.2.length≤1000) fun x=>Ij x.1
set_option maxHeartbeats 2000000 in
theorem Zb3 (hE:EM P e) (h39:Con e 39 lossF.O) (h103:Con e 103 cfgF.O) (h104:Con e 104 shcF.O) (h105:Con e 105 (Bx Jg)) (h106:Con e 106 fchF.O) (h107:Inl e 107 PL [.tmp 4]) (h154:Con e 154 (relS (BB ix108.R))):OvOk P 52 mprF.O:=by
 refine Bl hE g52 ?_
 rintro ⟨⟨c,bk,⟨ev,lo,sp,po,dn,nl,br⟩,hs,⟨ag,sq,tl,us,L⟩,fs,nx,so⟩,_⟩ _ ⟨_,_,rfl,hd,rfl⟩ hn K t f
 dsimp only at hn t f
 have hrow:=dvC.hf hd
 have hd0:=hd
 obtain ⟨hv,lv,fv,rfl,⟨ho,o1,o2,o3,o4,o5,o6,o7,o8,oN⟩,hH,hL,hF⟩:=BE hd
 have hc2:=fun (Q:AV→St→Prop) s a b=>@cF.u _ _ _ _ e 39 s Q _ h39 (c,_,()) ⟨_,_,rfl,⟨rfl,ho⟩,_,_,rfl,PE (sp:=sp) (nl:=nl) (br:=br) o1 o2 o3 o4,rfl⟩ trivial a b
 have hc3:=fun (Q:AV→St→Prop) s a b=>@cF.u _ _ _ _ e 104 s Q [.agg c.c,hv] h104 (c,hs,()) ⟨_,_,rfl,⟨rfl,ho⟩,_,_,rfl,⟨_,rfl,hH⟩,rfl⟩ trivial a b
 have hc4:=Zcc h105 ho o5 o6 o7 o8 hL hn
 have hc5:=fun (Q:AV→St→Prop) s a b=>@cF.u _ _ _ _ e 106 s Q [.agg c.c,fv] h106 (c,fs,()) ⟨_,_,rfl,⟨rfl,ho⟩,_,_,rfl,⟨_,rfl,hF⟩,rfl⟩ trivial a b
 have hcn:=fun r (Q:AV→St→Prop) s' (hr:s'.get r=some (.row 33 _)) (y:(∃ f ∈ fs,nx≤f.1)→Q (.bool true) s') n=>Ul h107 (k:=Q) (p:=fun f:Fl=>nx≤f.1) (xs:=fs) (fun Q k=>@GT _ ix108 e 154 s' Q h154 fv 108 [.ptr r 0] [.fp _] (fs,((c,bk,(ev,lo,sp,po,dn,nl,br),hs,(ag,sq,tl,us,L),fs,nx,so),()),()) ⟨_,_,rfl,⟨_,rfl,hF⟩,_,_,rfl,⟨_,_,rfl,hd0,rfl⟩,rfl⟩ trivial (.cons ⟨r,33,_,rfl,rfl,hr,hrow⟩ .nil) rfl k) y n
 unfold Ij at t f
 dsimp only at t f hc2 hc3 hc4 hc5
 change VW P e 0 _ (Al [_] 0 .lf) St0 none [] _
 by_cases hM:c.may
 ·have hc1:=PN h103 ho hM
  replace hc2:=fun (Q:AV→St→Prop) s (a:DO c (ev,lo,sp,po,dn,nl,br)→Q (.int .i64 0) s) (b:¬DO c (ev,lo,sp,po,dn,nl,br)→Q (.int .i64 8) s)=>hc2 Q s (fun q=>a q.2) (fun q=>b fun h=>q ⟨hM,h⟩)
  replace hc3:=fun (Q:AV→St→Prop) s (a:BX c hs→Q (.int .i64 0) s) (b:¬BX c hs→Q (.int .i64 8) s)=>hc3 Q s (fun q=>a q.2) (fun q=>b fun h=>q ⟨hM,h⟩)
  replace hc5:=fun (Q:AV→St→Prop) s (a:Eu c fs→Q (.int .i64 0) s) (b:¬Eu c fs→Q (.int .i64 8) s)=>hc5 Q s (fun q=>a q.2) (fun q=>b fun h=>q ⟨hM,h⟩)
  generalize DO c _=A1 at *
  generalize BX c _=A2 at *
  generalize lgG c _=A3 at *
  generalize Eu c _=A4 at *
  conv=>whnf
  repeat' (first|(refine hc1 _ _ ?_;conv=>whnf)|(refine hc2 _ _ (fun q1=>?_) (fun q1=>?_) <;> conv=>whnf)|(refine hc3 _ _ (fun q2=>?_) (fun q2=>?_) <;> conv=>whnf)|(refine hc4 _ _ (fun q3=>?_) (fun q3=>?_) <;> conv=>whnf)|(refine hc5 _ _ (fun q4=>?_) (fun q4=>?_) <;> conv=>whnf)|(refine hcn _ _ _ rfl (fun q5=>?_) (fun q5=>?_) <;> conv=>whnf)|((first|refine w2 rfl rfl ?_ ?_|refine w4 rfl rfl ?_ ?_|refine w5 rfl rfl ?_ ?_) <;> intro _ <;> first|(exfalso;omega)|(conv=>whnf))|((first|refine w12 rfl ?_|refine w13 rfl ?_);conv=>whnf)|fail)
  all_goals first
   | exact t ⟨hM,q1,q2,q3,q4,⟨by assumption,by assumption⟩,q5⟩ _
   | exact f (fun q=>q1 q.2.1) _
   | exact f (fun q=>q2 q.2.2.1) _
   | exact f (fun q=>q3 q.2.2.2.1) _
   | exact f (fun q=>q4 q.2.2.2.2.1) _
   | exact f (fun q=>q.2.2.2.2.2.2 q5) _
   | exact f (fun q=>by omega) _
 ·have hc1:=PO h103 ho hM
  conv=>whnf
  repeat' (first|(refine hc1 _ _ ?_;conv=>whnf)|((refine w5 rfl rfl ?_ ?_) <;> intro _ <;> first|(exfalso;omega)|(conv=>whnf))|fail)
  exact f (fun q=>hM q.1) _
def PM (es:List (AV×AV×Nat)) (l:List Hd):Prop:=es.map (fun e=>(e.1,e.2.1))=l.map (fun h=>(AV.int .i64 h.1,AV.int .u8 (h.2.2.2.1:Int)))
theorem PM.cons {e:AV×AV×Nat}{es:List (AV×AV×Nat)}{l:List Hd}(h:PM (e::es) l):∃ x m,l=x::m∧e.1=.int .i64 x.1∧e.2.1=.int .u8 (x.2.2.2.1:Int)∧PM es m:=by
 cases l with
 | nil=>cases h
 | cons k l=>
  unfold PM at h
  simp at h
  exact ⟨k,l,rfl,h.1.1,h.1.2,h.2⟩
theorem PM.find {k:Int}:∀ {es:List (AV×AV×Nat)}{l:List Hd},PM es l→Cu (.int .i64 k) es=some ((l.find? fun h=>decide (h.1=k)).map fun h=>AV.int .u8 (h.2.2.2.1:Int))
 | [],l,h=>by
  have:l=[]:=by
   have:=congrArg List.length h
   simp at this
   exact Zkd.1 this.symm
  subst this;rfl
 | (a,b,n)::es,l,h=>by
  obtain ⟨x,m,rfl,e1,e2,h'⟩:=h.cons
  dsimp only at e1 e2
  subst e1 e2
  show (match Er (.int .i64 k) (.int .i64 x.1) with|some true=>some (some _)|some false=>Cu (.int .i64 k) es|none=>none)=_
  rw [LC,List.find?_cons]
  by_cases hk:x.1=k
  ·rw [Zjk hk,show (k == x.1)=true by simp [hk]];rfl
  ·rw [Zjw hk,show (k == x.1)=false by simp only [beq_eq_false_iff_ne];exact fun e=>hk e.symm]
   simp only
   rw [PM.find h']
variable {es:List (AV×AV×Nat)}{l:List Hd}{n:Nat}
theorem PM.app {x:Hd}(h:PM es l):PM (es++[(.int .i64 x.1,.int .u8 (x.2.2.2.1:Int),n)]) (l++[x]):=by
 unfold PM at h ⊢;simp [h]
theorem IY {n:Nat}:∀ {es:List (AV×AV×Nat)}{l:List Hd},PM es l→Ht n es=true
 | [],_,h=>rfl
 | (a,b,m)::es,_,h=>by
  obtain ⟨x,l,rfl,e1,e2,h'⟩:=h.cons
  dsimp only at e1 e2
  subst e1 e2
  show (true && true && Ht n es)=true
  rw [IY h'];rfl
theorem IE {ρ:Nat→Nat}:∀ {es:List (AV×AV×Nat)}{l:List Hd},PM es l→BI ρ es=es
 | [],_,h=>rfl
 | (a,b,m)::es,_,h=>by
  obtain ⟨x,l,rfl,e1,e2,h'⟩:=h.cons
  dsimp only at e1 e2
  subst e1 e2
  show (AV.int .i64 _,AV.int .u8 _,m)::BI ρ es=_
  rw [IE h']
variable {t:AT}{q:AV→St→Prop}{y:AO}{r:Nat}
theorem WH {s:St}{x z:AO}{h:Hd}(hx:ev x t=.some (.map r)) (hy:ev y t=.some (.int .i64 h.1)) (hz:ev z t=.some (.int .u8 (h.2.2.2.1:Int))) (hs:s.get r=some (.map es n)) (hk:PM es l) (hn:∀ g ∈ l,g.1≠h.1)
 (hq:∀ es' n',PM es' (l++[h])→q (.tup []) (s.put r (.map es' n'))):EPrim (.mset x y z) t s q:=by
 refine EPrim.mk (v:=.tup []) (s':=s.put r (.map (es++[(.int .i64 h.1,.int .u8 (h.2.2.2.1:Int),n)]) (n+1))) (fun e rec=>?_) (hq _ _ hk.app)
 show wth x t _=_;unfold wth;rw [hx]
 show wth y t _=_;unfold wth;rw [hy]
 show wth z t _=_;unfold wth;rw [hz]
 show (Option.rec .fail _ (mapAt r s):RV)=_
 unfold mapAt;rw [hs]
 show (Option.rec .fail _ (Cu (.int .i64 h.1) es):RV)=_
 rw [hk.find,List.find?_eq_none.2 fun g hg=>by simpa using hn g hg]
 show RV.ok _ (s.put r (.map (AY es [(.int .i64 h.1,.int .u8 (h.2.2.2.1:Int),n)]) (n+1)))=_
 rw [CJ]
theorem WJ {s:St}{x:AO}{zv:AV}(hx:ev x t=.some (.map r)) (hy:ev y t=.some (.int .i64 k)) (hs:s.get r=some (.map es n)) (hk:PM es l)
 (h1:∀ h,l.find? (fun h=>decide (h.1=k))=some h→q (.tup [.int .u8 (h.2.2.2.1:Int),.bool true]) s) (h2:l.find? (fun h=>decide (h.1=k))=none→q (.tup [zv,.bool false]) s):EPrim (.mget zv true x y) t s q:=by
 cases hm:l.find? (fun h=>decide (h.1=k)) with
 | some h=>
  refine EPrim.mk (v:=.tup [.int .u8 (h.2.2.2.1:Int),.bool true]) (s':=s) (fun e rec=>?_) (h1 h hm)
  show wth x t _=_;unfold wth;rw [hx]
  show wth y t _=_;unfold wth;rw [hy]
  show (Option.rec .fail _ (mapAt r s):RV)=_
  unfold mapAt;rw [hs]
  show (Option.rec .fail _ (Cu (.int .i64 k) es):RV)=_
  rw [hk.find,hm];rfl
 | none=>
  refine EPrim.mk (v:=.tup [zv,.bool false]) (s':=s) (fun e rec=>?_) (h2 hm)
  show wth x t _=_;unfold wth;rw [hx]
  show wth y t _=_;unfold wth;rw [hy]
  show (Option.rec .fail _ (mapAt r s):RV)=_
  unfold mapAt;rw [hs]
  show (Option.rec .fail _ (Cu (.int .i64 k) es):RV)=_
  rw [hk.find,hm];rfl
theorem Zc3 {hs:List Hd}{s:Int}:(∀ h,hs.find? (fun h=>decide (h.1=s))=some h→0≤A6 hs s∧hs[(A6 hs s).toNat]?=some h)∧(hs.find? (fun h=>decide (h.1=s))=none→A6 hs s=-1):=by
 unfold A6
 constructor
 ·intro h hf
  cases hi:hs.findIdx? (fun h=>decide (h.1=s)) with
  | none=>
   rw [List.findIdx?_eq_none_iff] at hi
   have:=List.find?_some hf
   have hm:=List.mem_of_find?_eq_some hf
   rw [hi h hm] at this;cases this
  | some i=>
   dsimp only
   refine ⟨by omega,?_⟩
   rw [Int.toNat_natCast]
   obtain ⟨h1,h2,h3⟩:=List.findIdx?_eq_some_iff_getElem.1 hi
   rw [Zjf h1]
   rw [List.find?_eq_some_iff_getElem] at hf
   obtain ⟨g1,j,hj,g2,g3⟩:=hf
   rcases Nat.lt_trichotomy i j with hij|hij|hij
   ·have:=g3 i hij;simp at this h2;exact absurd h2 this
   ·subst hij;rw [g2]
   ·have:=h3 j hij
    rw [g2] at this
    exact absurd g1 this
 ·intro hf
  rw [List.find?_eq_none] at hf
  rw [List.findIdx?_eq_none_iff.2 fun x hx=>by simpa using hf x hx]
def cd56:AC:=match a56 with|.mk c _=>c
noncomputable def ix56:Fn (List Hd×Unit×Unit):=Cp hdC 56 .nil (fun _ _=>True) fun _ h=>h.2.2.2.2.1=true∨h.2.2.2.1=2∨h.2.2.2.1=3
theorem Zhm (h56:Inl e 56 cd56 [.tmp 2]):Es e hdC AV.agg 56 .nil (fun _ _=>True) (fun (_:Unit) h=>h.2.2.2.2.1=true∨h.2.2.2.1=2∨h.2.2.2.1=3):=by
 rintro c q xs ⟨st,bl,di,ph,de,sq⟩ l rfl _ _ hx Q y n
 obtain ⟨bv,dv,rfl,-⟩:=Cf hx
 dsimp only at y n
 refine ECall.inl h56.O h56.G ?_
 cases de
 all_goals
  conv=>whnf
  repeat' (first|((refine w5 rfl rfl ?_ ?_) <;> intro _ <;> first|(exfalso;omega)|(conv=>whnf))|fail)
  all_goals first
   | exact y (.inl rfl) _
   | exact y (by omega) _
   | exact n (fun q=>by simp at q;omega) _
def Ik:Dv→Prop
 | (c,bk,(ev,lo,sp,po,dn,nl,br),hs,(ag,sq,tl,us,L),fs,nx,so)=>Ij (c,bk,(ev,lo,sp,po,dn,nl,br),hs,(ag,sq,tl,us,L),fs,nx,so)∧Ji c hs fs∧¬Il L∧(nl=true→Ie hs L)∧(nl=false→(∀ i<hs.length,∀ h,hs[i]?=some h→CM L h)∧∀ i<L.length,∀ x,L[i]?=some x→Ep L hs x.stripe)
noncomputable def mckF:Fn (Dv×Unit):=cF (.g dvC .nil) (fun x=>x.1.2.2.2.2.1.2.2.2.2.length≤1000) fun x=>Ik x.1
variable {hs:List Hd}{i:Nat}
theorem ZH {x:Lv}(hx:L[i]?=some x):Ep L hs x.stripe↔((Db L x.stripe).par=false→0≤A6 hs x.stripe)∧((Db L x.stripe).par=true→(Db L x.stripe).home=false→0≤A6 hs x.stripe∧∀ h,hs[(A6 hs x.stripe).toNat]?=some h→2≤h.2.2.2.1):=by
 have hl:=(Zjg.1 hx).1
 have h0:=Ou hx rfl L.length hl
 have hlt:=HA L x.stripe L.length
 obtain ⟨y,hy⟩:∃ y,L[(AZ L x.stripe L.length).toNat]?=some y:=⟨_,Zjf (by omega)⟩
 have:Db L x.stripe=y:=by unfold Db;rw [Zjj (by omega),hy];rfl
 rw [this]
 unfold Ep
 rw [hy]
 exact ⟨fun h=>h y rfl,fun h z hz=>by cases hz;exact h⟩
set_option maxHeartbeats 2000000 in
theorem Zb9 (hE:EM P e) (h52:Con e 52 mprF.O) (h53:Con e 53 mhlF.O) (h54:Con e 54 mlgF.O) (h55:Inl e 55 Qh [.tmp 4]) (h57:Con e 57 mstF.O) (h58:Con e 58 mlsF.O) (h110:Con e 110 (relS (BB ix56.R))):OvOk P 18 mckF.O:=by
 refine Ic hE g18 ?_
 rintro ⟨⟨c,bk,⟨ev,lo,sp,po,dn,nl,br⟩,hs,⟨ag,sq,tl,us,L⟩,fs,nx,so⟩,_⟩ _ ⟨_,_,rfl,hd,rfl⟩ hn1000 K t f
 dsimp only at hn1000
 have hrow:=dvC.hf hd
 have hc1:=fun (Q:AV→St→Prop) s a b=>@bF.u _ _ _ _ e 52 s Q _ h52 (_,()) ⟨_,_,rfl,hd,rfl⟩ hn1000 a b
 have hc2:=fun (hq:Ij (c,bk,(ev,lo,sp,po,dn,nl,br),hs,(ag,sq,tl,us,L),fs,nx,so)) (Q:AV→St→Prop) s a b=>@bF.u _ _ _ _ e 53 s Q _ h53 (_,()) ⟨_,_,rfl,hd,rfl⟩ ⟨hq.1,hq.2.2.1,hq.2.2.2.2.1⟩ a b
 have hc5:=fun h l (hh:hdC.r h l) (Q:AV→St→Prop) s a b=>@bF.u _ _ _ _ e 57 s Q _ h57 (_,h,()) ⟨_,_,rfl,hd,_,_,rfl,hh,rfl⟩ trivial a b
 have hc6:=fun s' (hs':Ad s') (Q:AV→St→Prop) st k=>@Fn.u _ e 58 st Q mlsF [.agg _,.int .i64 s'] h58 (_,s',()) ⟨_,_,rfl,hd,_,_,rfl,⟨rfl,Bg hs'⟩,rfl⟩ trivial k
 obtain ⟨hv,lv,fv,rfl,⟨ho,o1,o2,o3,o4,o5,o6,o7,o8,oN⟩,hH,hL,hF⟩:=BE hd
 obtain ⟨cs,hs1,hl1,hn1⟩:=hH.nth
 obtain ⟨ls,hs2,hl2,hn2⟩:=hL.lv
 have hvf:=hH.hf
 have hlf:=hL.hf
 have hc3:=fun (Q:AV→St→Prop) s a b=>@bF.u _ _ _ _ e 54 s Q [lv] h54 (L,()) ⟨_,_,rfl,⟨_,rfl,hL⟩,rfl⟩ trivial a b
 have hc4:=fun (Q:AV→St→Prop) s y n=>UO (k:=Q) (s:=s) h55 (p:=fun h:Hd=>h.2.2.2.2.1=true∨h.2.2.2.1=2∨h.2.2.2.1=3) (xs:=hs) (fun Q k=>@GT _ ix56 e 110 s Q h110 hv 56 [] [] (hs,(),()) ⟨_,_,rfl,⟨_,rfl,hH⟩,_,_,rfl,rfl,rfl⟩ trivial .nil rfl k) y n
 have hbare:Ie hs L↔L.length=0∧¬∃ h ∈ hs,h.2.2.2.2.1=true∨h.2.2.2.1=2∨h.2.2.2.1=3:=by
  unfold Ie
  refine and_congr_right fun _=>?_
  constructor
  ·rintro h ⟨x,hx,hq⟩
   obtain ⟨i,hi⟩:=Zk6 hx
   have:=h i (Zjg.1 hi).1 x hi
   rcases hq with hq|hq|hq
   ·rw [hq] at this;cases this.1
   ·exact this.2.1 hq
   ·exact this.2.2 hq
  ·intro h i hi x hx
   have hm:=Zj1 hx
   exact ⟨Bool.eq_false_iff.2 fun q=>h ⟨x,hm,.inl q⟩,fun q=>h ⟨x,hm,.inr (.inl q)⟩,fun q=>h ⟨x,hm,.inr (.inr q)⟩⟩
 have hshB:Ij (c,bk,(ev,lo,sp,po,dn,nl,br),hs,(ag,sq,tl,us,L),fs,nx,so)→BX c hs:=fun h=>h.2.2.1
 unfold Ik at t f
 dsimp only at t f hc1 hc2 hc3 hc4
 rw [hbare] at t f
 generalize (∃ h ∈ hs,h.2.2.2.2.1=true∨h.2.2.2.1=2∨h.2.2.2.1=3)=A4 at *
 generalize Ij _=A1 at *
 generalize Ji c hs fs=A2 at *
 generalize Il L=A3 at *
 change VW P e 0 _ (Al [_] 0 .lf) St0 none [] _
 cases nl
 all_goals
  conv=>whnf
  repeat' (first|(refine hc1 _ _ (fun q1=>?_) (fun q1=>?_) <;> conv=>whnf)|(refine hc2 q1 _ _ (fun q2=>?_) (fun q2=>?_) <;> conv=>whnf)|(refine hc3 _ _ (fun q3=>?_) (fun q3=>?_) <;> conv=>whnf)|(refine hc4 _ _ (fun q4=>?_) (fun q4=>?_) <;> conv=>whnf)|(refine Ac rfl hs1 ?_;conv=>whnf)|(refine Ac rfl hs2 ?_;conv=>whnf)|((refine w3 rfl rfl ?_ ?_) <;> intro _ <;> first|(exfalso;omega)|(conv=>whnf))|((first|refine w12 rfl ?_|refine w13 rfl ?_);conv=>whnf)|fail)
  all_goals try first
   | exact f (fun q=>q1 q.1) _
   | exact f (fun q=>q2 q.2.1) _
   | exact f (fun q=>q.2.2.1 q3) _
   | exact f (fun q=>(q.2.2.2.1 rfl).2 q4) _
   | exact f (fun q=>by have:=(q.2.2.2.1 rfl).1;omega) _
   | exact t ⟨q1,q2,q3,fun _=>⟨by omega,q4⟩,fun h=>nomatch h⟩ _
 have hsh:=hshB q1
 refine Jm hE (β:=List (AV×AV×Nat)×Nat) hs.length (fun i b=>[(1,.ptr 0 0),(3,.map 1),(41,hv),(42,.int .i64 (hs.length:Int)),(43,.int .i64 (i:Int))]) (fun i b=>[.row 33 (c.c++[.bool bk,.int .u32 ev,.int .i64 lo,.bool sp,.int .i64 po,.int .i64 dn,.bool false,.bool br,hv,.int .u32 ag,.int .u32 sq,.int .i64 tl,.int .i64 us,lv,fv,.int .i64 nx,.bool so]),.map b.1 b.2]) (fun i b=>PM b.1 (hs.take i)∧∀ j<i,∀ h,hs[j]?=some h→CM L h) ([],0) ⟨rfl,fun k h=>by omega⟩ (Abs.tells (rs:=[0,1]) ⟨by decide,⟨r9,r9,t9,r9,r9,trivial⟩,⟨⟨Ab hrow,by rw [Aa hrow];rfl⟩,r9,trivial⟩⟩) ?_
 rintro i ⟨es,N⟩ hi ⟨hP,hI⟩
 dsimp only at hP hI ⊢
 by_cases hlt:i<hs.length
 ·obtain ⟨x,l,r,hx,hxr,hd2⟩:=hn1 i hlt
  have hc5:=hc5 x l hxr
  have hfh:¬CM L x→∀ s,K (.int .i64 8) s:=fun g=>f fun q=>g ((q.2.2.2.2 rfl).1 i hlt x hx)
  have hth:CM L x→∀ j<i+1,∀ h,hs[j]?=some h→CM L h:=fun g=>AK hI fun y e=>by rw [hx] at e;cases e;exact g
  have htk:hs.take i++[x]=hs.take (i+1):=by rw [List.take_add_one,hx];rfl
  have hne:∀ g ∈ hs.take i,g.1≠x.1:=fun g hg=>by
   obtain ⟨j,hj⟩:=Zk6 hg
   rw [Zks] at hj
   split at hj
   ·exact (hsh.1 i hlt x hx).2 j (by assumption) g hj
   ·cases hj
  obtain ⟨st,bl,di,ph,de,hsq⟩:=x
  obtain ⟨bv,dv,rfl,-⟩:=Cf hxr
  dsimp only at hc5
  clear hn1 hn2 hI hc1 hc2 hc3 hc4 hc6
  conv=>whnf
  repeat' (first|(refine Ai rfl hs1 rfl hlt hd2 ?_;conv=>whnf)|(refine Ay (cs:=[.int .i64 st,bv,dv,.int .u8 (ph:Int),.bool de,.int .u32 hsq]) rfl ?_;conv=>whnf)|(refine hc5 _ _ (fun hq=>?_) (fun hq=>?_) <;> conv=>whnf)|(refine WH (h:=(st,bl,di,ph,de,hsq)) rfl rfl rfl rfl hP hne (fun es' N' hP'=>?_);conv=>whnf)|((refine w1 rfl rfl ?_ ?_) <;> intro _ <;> first|(exfalso;omega)|(conv=>whnf))|((first|refine w7 rfl rfl (by omega) ?_|refine w12 rfl ?_|refine w13 rfl ?_|refine ⟨rfl,?_⟩);conv=>whnf)|fail)
  ·refine ⟨hlt,(es',N'),⟨by rw [← htk];exact hP',hth hq⟩,Abs.tells (rs:=[0,1]) ⟨by decide,⟨r9,r9,t9,r9,r9,trivial⟩,⟨⟨Ab hrow,by rw [Aa hrow];rfl⟩,⟨IY hP',?_⟩,trivial⟩⟩⟩
   show _=some (AObj.map (BI _ es') N');rw [IE hP'];rfl
  ·exact hfh hq _
 ·obtain rfl:i=hs.length:=by omega
  rw [List.take_length] at hP
  have hI:∀ j<hs.length,∀ h,hs[j]?=some h→CM L h:=hI
  conv=>whnf
  repeat' (first|(refine Ac rfl hs2 ?_;conv=>whnf)|((refine w1 rfl rfl ?_ ?_) <;> intro _ <;> first|(exfalso;omega)|(conv=>whnf))|fail)
  refine A0 hE L.length (fun i=>[(1,.ptr 0 0),(3,.map 1),(59,lv),(60,.int .i64 (L.length:Int)),(61,.int .i64 (i:Int))]) (fun i=>[.row 33 (c.c++[.bool bk,.int .u32 ev,.int .i64 lo,.bool sp,.int .i64 po,.int .i64 dn,.bool false,.bool br,hv,.int .u32 ag,.int .u32 sq,.int .i64 tl,.int .i64 us,lv,fv,.int .i64 nx,.bool so]),.map es N]) (fun i=>∀ j<i,∀ x,L[j]?=some x→Ep L hs x.stripe) (fun k h=>by omega) (Abs.tells (rs:=[0,1]) ⟨by decide,⟨r9,r9,t9,r9,r9,trivial⟩,⟨⟨Ab hrow,by rw [Aa hrow];rfl⟩,⟨IY hP,?_⟩,trivial⟩⟩) ?_
  ·show _=some (AObj.map (BI _ es) N);rw [IE hP];rfl
  intro i hi hJ
  by_cases hlt2:i<L.length
  ·obtain ⟨sq',st',bl',pa,su,ho',r,hx,hx',hd2⟩:=hn2 i hlt2
   have hc6:=hc6 st' hx'.2.1
   have hkl:=ZH (hs:=hs) hx
   dsimp only at hkl
   have hfh:¬Ep L hs st'→∀ s,K (.int .i64 8) s:=fun g=>f fun q=>g ((q.2.2.2.2 rfl).2 i hlt2 _ hx)
   have hth:Ep L hs st'→∀ j<i+1,∀ x,L[j]?=some x→Ep L hs x.stripe:=fun g=>AK hJ fun y e=>by rw [hx] at e;cases e;exact g
   rw [hkl] at hfh hth
   have hfp:=@Zc3 hs st'
   have hpl:=Gf hs st'
   unfold mlsF at hc6
   dsimp only at hc6
   generalize FK L st'=B at *
   generalize Db L st'=y at *
   obtain ⟨xq,xs,xb,xp,xu,xh⟩:=y
   replace hc6:∀ (Q:AV→St→Prop) s',Q (.tup [.agg [.int .u32 xq,.int .i64 xs,.int .i64 xb,.bool xp,.bool xu,.bool xh],.bool B]) s'→ESc e 58 _ s' Q:=hc6
   dsimp only at hfh hth
   clear hkl hn1 hn2 hJ hI hc1 hc2 hc3 hc4 hc5 t f
   cases xp <;> cases xh
   all_goals
    conv=>whnf
    repeat' (first|(refine Ai rfl hs2 rfl hlt2 hd2 ?_;conv=>whnf)|(refine Ay (cs:=[.int .u32 sq',.int .i64 st',.int .i64 bl',.bool pa,.bool su,.bool ho']) rfl ?_;conv=>whnf)|(refine hc6 _ _ ?_;conv=>whnf)|(refine WJ rfl rfl rfl hP (fun h qs=>?_) (fun qs=>?_) <;> conv=>whnf)|((first|refine w1 rfl rfl ?_ ?_|refine w2 rfl rfl ?_ ?_) <;> intro _ <;> first|(exfalso;omega)|(conv=>whnf))|((first|refine w7 rfl rfl (by omega) ?_|refine w12 rfl ?_|refine w13 rfl ?_|refine ⟨rfl,?_⟩);conv=>whnf)|fail)
    all_goals first
     | exact ⟨hlt2,hth ⟨(fun q=>Bool.noConfusion q),(fun _ q=>Bool.noConfusion q)⟩,Abs.tells (rs:=[0,1]) ⟨by decide,⟨r9,r9,t9,r9,r9,trivial⟩,⟨⟨Ab hrow,by rw [Aa hrow];rfl⟩,⟨IY hP,by show _=some (AObj.map (BI _ es) N);rw [IE hP];rfl⟩,trivial⟩⟩⟩
     | exact ⟨hlt2,hth ⟨(fun _=>(hfp.1 h qs).1),(fun q=>Bool.noConfusion q)⟩,Abs.tells (rs:=[0,1]) ⟨by decide,⟨r9,r9,t9,r9,r9,trivial⟩,⟨⟨Ab hrow,by rw [Aa hrow];rfl⟩,⟨IY hP,by show _=some (AObj.map (BI _ es) N);rw [IE hP];rfl⟩,trivial⟩⟩⟩
     | exact hfh (fun q=>by have:=q.1 rfl;have:=hfp.2 qs;omega) _
     | exact hfh (fun q=>by have:=(q.2 rfl rfl).2 _ (hfp.1 h qs).2;omega) _
     | exact ⟨hlt2,hth ⟨(fun q=>Bool.noConfusion q),fun _ _=>⟨(hfp.1 h qs).1,fun g hg=>by rw [(hfp.1 h qs).2] at hg;cases hg;omega⟩⟩,Abs.tells (rs:=[0,1]) ⟨by decide,⟨r9,r9,t9,r9,r9,trivial⟩,⟨⟨Ab hrow,by rw [Aa hrow];rfl⟩,⟨IY hP,by show _=some (AObj.map (BI _ es) N);rw [IE hP];rfl⟩,trivial⟩⟩⟩
     | exact hfh (fun q=>by have:=(q.2 rfl rfl).1;have:=hfp.2 qs;omega) _
  ·conv=>whnf
   repeat' (first|((refine w1 rfl rfl ?_ ?_) <;> intro _ <;> first|(exfalso;omega)|(conv=>whnf))|fail)
   exact t ⟨q1,q2,q3,(fun h=>nomatch h),fun _=>⟨hI,fun j hj=>hJ j (by omega)⟩⟩ _
theorem Zdj (h49:Con e 49 drdF.O) {x:Dk}{l:List AV}(hx:dkC.r x l) (hs:CP x) (hp:CC x) {a:Int}(ha:0≤a∧a<x.1.length) (Q:AV→St→Prop) (s:St) (k:Q (if x.2.2=true then .tup [.nils,.int .i64 40] else .tup [Am (Bh x a),.int .i64 0]) s):ESc e 49 [.agg l,.int .i64 a] s Q:=by
 obtain ⟨y,hy,rfl⟩:=Ia hx
 have hi:=IU hy
 have hok:=Pg hy hs
 have hn:=hok.n
 have hus:y.us.length=x.1.length:=by rw [hy.a.bs.length,hy.b]
 have hd:AN y=true:=by rw [hi];exact hp
 refine ESc.fam (e:=e) (k:=Q) (s:=s) drdF h49 ⟨y,a⟩ ⟨hok,by dsimp only;unfold Ad;omega⟩ rfl ?_
 have he:(DKA.mk y a).e=if x.2.2=true then 40 else 0:=by
  show Ip y a=_
  unfold Ip
  rw [Zjj hd,Zjj (by omega),hy.d]
 show Q (Gi ⟨y,a⟩) s
 unfold Gi
 rw [he]
 cases hdd:x.2.2
 ·rw [hdd,Zjn Bool.false_ne_true] at k
  rw [Zjn Bool.false_ne_true,Zjj rfl,show As (DKA.mk y a).b=Bh x a from LY hy a]
  exact k
 ·rw [hdd,Zjj rfl] at k
  rw [Zjj rfl,Zjn (by decide)]
  exact k
open Classical in
noncomputable def Cw (d:Dv) (D:List Dk):Int:=if Ik d∧d.1.may∧C8 d.1 D then (if d.2.2.1.2.2.2.2.2.2=true then 230 else 0) else 8
noncomputable def askF:Fn (Dv×List Dk×Unit):=⟨.g dvC (.v dkC.sl .nil),fun x=>x.1.2.2.2.2.1.2.2.2.2.length≤1000∧∀ d ∈ x.2.1,CP d,fun x=>.int .i64 (Cw x.1 x.2.1)⟩
theorem Zek (hE:EM P e) (h18:Con e 18 mckF.O) (h19:Con e 19 ftcF.O):OvOk P 35 askF.O:=by
 refine B2 g35.b ?_
 rintro ⟨d,D,_⟩ _ ⟨l,_,rfl,hd,v,_,rfl,⟨_,e0,hD⟩,rfl⟩ ⟨hn,hsm⟩
 cases e0
 dsimp only at hD hn hsm
 refine ⟨rfl,C.of_G hE g35 ?_⟩
 have hc1:=fun (Q:AV→St→Prop) s a b=>@cF.u _ _ _ _ e 18 s Q _ h18 (d,()) ⟨_,_,rfl,hd,rfl⟩ hn a b
 have hc2:=fun (c:Cfg) (hc:c.ok) (Q:AV→St→Prop) s a b=>@cF.u _ _ _ _ e 19 s Q [.agg c.c,v] h19 (c,D,()) ⟨_,_,rfl,⟨rfl,hc⟩,_,_,rfl,⟨_,rfl,hD⟩,rfl⟩ hsm a b
 have fin:∀ st n,Cw d D=n→Frz st (.int .i64 n) (askF.out (d,D,())):=by
  rintro st n rfl;exact .plain _ rfl
 generalize askF.out _=O at fin ⊢
 unfold Cw at fin
 dsimp only at hc1 hc2
 generalize Ik d=A1 at *
 have hvf:=hD.hf
 obtain ⟨c,bk,⟨ev,lo,sp,po,dn,nl,br⟩,hs,⟨ag,sq,tl,us,L⟩,fs,nx,so⟩:=d
 obtain ⟨hv,lv,fv,rfl,ho,hH,hL,hF⟩:=BE hd
 have hc2:=hc2 c ho.1
 dsimp only at fin
 change VW P e 0 _ (Al [_,v] 0 .lf) St0 none [] _
 cases br
 all_goals
  conv=>whnf
  repeat' (first|(refine hc1 _ _ (fun q1=>?_) (fun q1=>?_) <;> conv=>whnf)|(refine hc2 _ _ (fun q2=>?_) (fun q2=>?_) <;> conv=>whnf)|((refine w6 rfl rfl ?_ ?_) <;> intro _ <;> first|(exfalso;omega)|(conv=>whnf))|fail)
  all_goals first
   | exact fin _ _ (by rw [Zjn fun q=>q1 q.1])
   | exact fin _ _ (by rw [Zjn fun q=>q2 q.2])
   | exact fin _ _ (by rw [Zjj ⟨q1,q2⟩,Zjn Bool.false_ne_true])
   | exact fin _ _ (by rw [Zjj ⟨q1,q2⟩,Zjj rfl])
def An (c:Cfg) (s:Int):Nat:=(Bp c s (c.members-1)).toNat
def KQ (D:List Dk) (s:Int) (p:Nat):List Nat:=(D[p]?.map fun d=>Bh d (s+1)).getD []
def C7 (c:Cfg) (D:List Dk) (s:Int):List Nat:=AA (AD D (s+1) (An c s) c.members.toNat)
def Cg (d:Dv) (D:List Dk) (s:Int):Prop:=Ed d.2.2.1 s=-1∧Hr d s≤1∧(∀ i<d.1.members.toNat,Bw D i=false)∧C7 d.1 D s≠KQ D s (An d.1 s)
def Ih (d:Dv) (D:List Dk):Prop:=d.1.may∧DO d.1 d.2.2.1∧C8 d.1 D∧∀ x ∈ D,CP x
theorem O9 {D:List Dk}{a:Int}{p:Nat}:∀ i,(AD D a p i).length=if i≤p then i else i-1
 | 0=>by rw [Zjj (Zjy _)];rfl
 | i+1=>by
  unfold AD
  rw [Zjt,O9 i]
  split
  ·split <;> split <;> simp <;> omega
  ·split <;> split <;> simp <;> omega
variable {d:Dv}{D:List Dk}
theorem U1 {cs:List AV}(hs:Ih d D) (hn:∀ i,i<D.length→∃ x c l,D[i]?=some x∧dkC.r x c∧cs.drop (i*3)=c++l) (h0:0≤s∧s<AG d.1) (h49:Con e 49 drdF.O) (hi:(i:Int)<d.1.members):i<D.length∧∃ x bv wv r,D[i]?=some x∧cs.drop (i*3)=[bv,wv,.bool (Bw D i)]++r∧((Bh x (s+1)).length=128∧∀ y ∈ Bh x (s+1),y<256)∧∀ (Q:AV→St→Prop) st,Q (if Bw D i=true then .tup [.nils,.int .i64 40] else .tup [Am (Bh x (s+1)),.int .i64 0]) st→ESc e 49 [.agg [bv,wv,.bool (Bw D i)],.int .i64 (s+1)] st Q:=by
 obtain ⟨hM,-,hD,hsm⟩:=hs
 have hl:=hD.1
 have hil:i<D.length:=by omega
 obtain ⟨x,cl,r,hx,hxr,hd⟩:=hn i hil
 obtain ⟨hlen,hk⟩:=hD.2 i hil x hx
 have hdead:Bw D i=x.2.2:=by unfold Bw;rw [hx];rfl
 rw [Zjn (by omega)] at hlen
 have hse:=JR hxr hk (s+1)
 have huse:=fun Q st k=>Zdj (e:=e) h49 hxr (hsm x (Zj1 hx)) hk (a:=s+1) ⟨by omega,by omega⟩ Q st k
 rw [hdead]
 obtain ⟨bs,ws,dd⟩:=x
 obtain ⟨bv,wv,rfl,-,-⟩:=Gm hxr
 exact ⟨hil,_,bv,wv,r,hx,hd,hse,huse⟩
variable {lo po dn:Int}{sp nl br:Bool}
theorem U8 (h12:Con e 12 misF.O) (ho:c.ok) (hM:c.may) {ev:Int}(hl:DO c (ev,lo,sp,po,dn,nl,br)) (h0:0≤s∧s<AG c) (o1:Bm ev) (o2:Ad lo) (o3:Ad po) (o4:Ad dn) (hsw:(Lit.int .i64 s).wf=true) (Q:AV→St→Prop) (st:St) (k:Q (.tup [.int .i64 (Ed (ev,lo,sp,po,dn,nl,br) s),.int .i64 0]) st):ESc e 12 [.agg c.c,.agg [.int .u32 ev,.int .i64 lo,.bool sp,.int .i64 po,.int .i64 dn,.bool nl,.bool br],.int .i64 s] st Q:=by
 refine Fn.u (F:=misF) h12 (c,(ev,lo,sp,po,dn,nl,br),s,()) ⟨_,_,rfl,⟨rfl,ho⟩,_,_,rfl,PE o1 o2 o3 o4,_,_,rfl,⟨rfl,hsw⟩,rfl⟩ ho ?_
 unfold misF
 dsimp only
 rw [Zjj ⟨hM,hl⟩,Zjj h0];exact k
def lkS (L:List (List Nat)):List AObj:=match L with
 | []=>[]
 | b::l=>[.row 76 ((b::l).map Am)]
def Eh (s:Int) (p k:Nat) (m:Int) (old:List Nat) (L:List (List Nat)) (i:Nat):List (Nat×AV):=[(0,.int .i64 s),(1,.ptr 4 0),(2,.ptr 0 0),(3,.ptr 1 0),(4,.ptr 2 0),(5,.ptr 3 0),(9,.int .i64 (p:Int)),(11,match L with|[]=>.nils|b::l=>.sl k 0 (l.length+1) none),(12,match Nat.ble i p with|true=>.nils|false=>Am old),(41,.int .i64 m),(42,.int .i64 (i:Int))]
def Qi:AC:=match a46 with|.mk c _=>c
def KW:AC:=match a51 with|.mk c _=>c
def Mm:AC:=match Qi with
 | .seq _ (.seq _ (.seq _ (.seq _ (.seq _ (.seq _ r)))))=>r
 | _=>.skip
variable {bk so:Bool}{nx:Int}{hv lv fv:AV}{p:Nat}{old:List Nat}{Q:AV→St→Prop}
theorem lkr5 (hE:EM P e) (h50:Con e 50 fldF.O) (h51:Inl e 51 KW [.tmp 4]) {ev:Int}{L:List (List Nat)}{n:Nat}(hrow:hfs (c.c++[.bool bk,.int .u32 ev,.int .i64 lo,.bool sp,.int .i64 po,.int .i64 dn,.bool nl,.bool br,hv,.int .u32 ag,.int .u32 sq,.int .i64 tl,.int .i64 us,lv,fv,.int .i64 nx,.bool so])=true) (hvr:hfs [v]=true) (hL:Dr L) (hl:0<L.length∧L.length≤16) (ho1:old.length=128) (ho2:∀ x ∈ old,x<256) (hip:p<i) (hpi:(p:Int)<c.members∧c.members≤16) (hs0:0≤s∧s≤100) (hno:AA L=old→∀ st,(∀ i o,([.row 33 (c.c++[.bool bk,.int .u32 ev,.int .i64 lo,.bool sp,.int .i64 po,.int .i64 dn,.bool nl,.bool br,hv,.int .u32 ag,.int .u32 sq,.int .i64 tl,.int .i64 us,lv,fv,.int .i64 nx,.bool so]),.row 34 [v],.row 66 [.nils],.row 43 [.nils],.row 24 c.c]:List AObj)[i]?=some o→st.get i=some o)→Q (.tup []) st) (hyes:AA L≠old→∀ st r5 r6,5≤r5→r5<r6→st.get 0=some (.row 33 (c.c++[.bool bk,.int .u32 ev,.int .i64 lo,.bool sp,.int .i64 po,.int .i64 dn,.bool nl,.bool br,hv,.int .u32 ag,.int .u32 sq,.int .i64 tl,.int .i64 us,lv,fv,.int .i64 nx,.bool so]))→st.get 1=some (.row 34 [v])→st.get 2=some (.row 66 [.sl r5 0 1 none])→st.get 3=some (.row 43 [.sl r6 0 1 none])→st.get 4=some (.row 24 c.c)→st.get r5=some (.row 3 [.int .i64 s])→st.get r6=some (.row 79 ([.int .i64 (p:Int),.int .u8 1,.int .i64 (s+1),Am (AA L)]))→ Q (.tup []) st):
 W P 5 none Mm (At (Eh s p 5 c.members old L i)) (Ae St0 (([.row 33 (c.c++[.bool bk,.int .u32 ev,.int .i64 lo,.bool sp,.int .i64 po,.int .i64 dn,.bool nl,.bool br,hv,.int .u32 ag,.int .u32 sq,.int .i64 tl,.int .i64 us,lv,fv,.int .i64 nx,.bool so]),.row 34 [v],.row 66 [.nils],.row 43 [.nils],.row 24 c.c]:List AObj)++lkS L)) [] (Bz [] Q):=by
 have hLs:=Ky hL (by omega)
 have hc:∀ (Q:AV→St→Prop) st,Q (.tup [Am (AA L),.int .i64 0]) st→ESc e 50 [.fz L.length none (L.map Am)] st Q:=fun Q st k=>Fn.u (F:=fldF) h50 (L,()) ⟨_,_,rfl,⟨_,rfl,hLs⟩,rfl⟩ ⟨hL,hl.2⟩ k
 have hax:=GR hL
 have hsa:Sl 1 128 (Aj (AA L)) (Am (AA L)):=.inr (.inr ⟨_,rfl,by rw [show (Aj (AA L)).length=(AA L).length from Zjm ..];exact hax.1⟩)
 have hso:Sl 1 128 (Aj old) (Am old):=.inr (.inr ⟨_,rfl,by rw [show (Aj old).length=old.length from Zjm ..];exact ho1⟩)
 have hbf:Nat.ble i p=false:=by rw [← Zle];intro e;have:=Zj3 e;omega
 generalize AA L=A at *
 unfold Eh
 rw [hbf]
 rcases L with _|⟨b,L⟩
 ·exact absurd hl.1 (by simp)
 refine W.tells (AbsK.frz (n:=5) (e:=76) (cs:=(b::L).map Am) (tl:=[(0,.int .i64 s),(4,.ptr 2 0),(5,.ptr 3 0),(9,.int .i64 (p:Int)),(11,.sl 5 0 (L.length+1) none),(12,Am old)]) (os:=[.row 33 (c.c++[.bool bk,.int .u32 ev,.int .i64 lo,.bool sp,.int .i64 po,.int .i64 dn,.bool nl,.bool br,hv,.int .u32 ag,.int .u32 sq,.int .i64 tl,.int .i64 us,lv,fv,.int .i64 nx,.bool so]),.row 34 [v],.row 66 [.nils],.row 43 [.nils],.row 24 c.c]) (rs:=[0,1,2,3,4,5]) ⟨rfl,by decide,⟨r9,r9,r9,r9,r9,r9,trivial⟩,⟨⟨Ab hrow,by rw [Aa hrow];rfl⟩,⟨Ab hvr,by rw [Aa hvr];rfl⟩,r9,r9,⟨Ab rfl,by rw [Aa rfl];rfl⟩,⟨Ab (BO _),by rw [Aa (BO _)];rfl⟩,trivial⟩⟩ rfl (BO _) rfl rfl rfl rfl rfl (by show [Cv 5 _ (.row 33 (c.c++[.bool bk,.int .u32 ev,.int .i64 lo,.bool sp,.int .i64 po,.int .i64 dn,.bool nl,.bool br,hv,.int .u32 ag,.int .u32 sq,.int .i64 tl,.int .i64 us,lv,fv,.int .i64 nx,.bool so])),Cv 5 _ (.row 34 [v]),.row 66 [.nils],.row 43 [.nils],Cv 5 _ (.row 24 c.c)]=_;rw [D5 hrow,D5 hvr,D5 rfl])) ?_
 refine F9 hE ?_
 show VW P e 5 Mm (At [(0,.int .i64 s),(4,.ptr 2 0),(5,.ptr 3 0),(9,.int .i64 (p:Int)),(11,.fz (L.length+1) none ((b::L).map Am)),(12,Am old)]) (Ae St0 [.row 33 (c.c++[.bool bk,.int .u32 ev,.int .i64 lo,.bool sp,.int .i64 po,.int .i64 dn,.bool nl,.bool br,hv,.int .u32 ag,.int .u32 sq,.int .i64 tl,.int .i64 us,lv,fv,.int .i64 nx,.bool so]),.row 34 [v],.row 66 [.nils],.row 43 [.nils],.row 24 c.c]) none [] _
 conv=>whnf
 repeat' (first|(refine hc _ _ ?_;conv=>whnf)|(refine ESc.inl h51 ?_;conv=>whnf)|(refine EY rfl hsa hax.2 ?_;conv=>whnf)|(refine EY rfl hso ho2 ?_;conv=>whnf)|(refine NF rfl rfl (fun heq=>?_) (fun hne=>?_) <;> conv=>whnf)|(refine CT (m:=1) rfl rfl rfl rfl (by decide) (by decide) ?_;conv=>whnf)|((first|refine w7 rfl rfl (by omega) ?_|refine w12 rfl ?_|refine w13 rfl ?_);conv=>whnf)|fail)
 ·exact hno heq _ (fun i o h=>by rcases i with _|_|_|_|_|_ <;> first|(cases h;rfl)|cases h)
 ·exact hyes hne _ 6 8 (by decide) (by decide) rfl rfl rfl rfl rfl rfl rfl
variable {fs:List Fl}
theorem lk5 (hE:EM P e) (h12:Con e 12 misF.O) (h47:Con e 47 phF.O) (h48:Con e 48 parF.O) (h49:Con e 49 drdF.O) (h50:Con e 50 fldF.O) (h51:Inl e 51 KW [.tmp 4]) {ev:Int}(hd:dvC.r (c,bk,(ev,lo,sp,po,dn,nl,br),hs,(ag,sq,tl,us,L),fs,nx,so) (c.c++[.bool bk,.int .u32 ev,.int .i64 lo,.bool sp,.int .i64 po,.int .i64 dn,.bool nl,.bool br,hv,.int .u32 ag,.int .u32 sq,.int .i64 tl,.int .i64 us,lv,fv,.int .i64 nx,.bool so])) (hD:Ls dkC D v) (hok:Ih (c,bk,(ev,lo,sp,po,dn,nl,br),hs,(ag,sq,tl,us,L),fs,nx,so) D) (h0:0≤s∧s<AG c) (hno:¬Cg (c,bk,(ev,lo,sp,po,dn,nl,br),hs,(ag,sq,tl,us,L),fs,nx,so) D s→∀ st,(∀ i o,([.row 33 (c.c++[.bool bk,.int .u32 ev,.int .i64 lo,.bool sp,.int .i64 po,.int .i64 dn,.bool nl,.bool br,hv,.int .u32 ag,.int .u32 sq,.int .i64 tl,.int .i64 us,lv,fv,.int .i64 nx,.bool so]),.row 34 [v],.row 66 [.nils],.row 43 [.nils],.row 24 c.c]:List AObj)[i]?=some o→st.get i=some o)→Q (.tup []) st) (hyes:Cg (c,bk,(ev,lo,sp,po,dn,nl,br),hs,(ag,sq,tl,us,L),fs,nx,so) D s→∀ st r5 r6,5≤r5→r5<r6→st.get 0=some (.row 33 (c.c++[.bool bk,.int .u32 ev,.int .i64 lo,.bool sp,.int .i64 po,.int .i64 dn,.bool nl,.bool br,hv,.int .u32 ag,.int .u32 sq,.int .i64 tl,.int .i64 us,lv,fv,.int .i64 nx,.bool so]))→st.get 1=some (.row 34 [v])→st.get 2=some (.row 66 [.sl r5 0 1 none])→st.get 3=some (.row 43 [.sl r6 0 1 none])→st.get 4=some (.row 24 c.c)→st.get r5=some (.row 3 [.int .i64 s])→st.get r6=some (.row 79 ([.int .i64 (An c s:Int),.int .u8 1,.int .i64 (s+1),Am (C7 c D s)]))→ Q (.tup []) st):
 W P 5 none Qi (Al [.int .i64 s,.ptr 4 0,.ptr 0 0,.ptr 1 0,.ptr 2 0,.ptr 3 0] 0 .lf) (Ae St0 [.row 33 (c.c++[.bool bk,.int .u32 ev,.int .i64 lo,.bool sp,.int .i64 po,.int .i64 dn,.bool nl,.bool br,hv,.int .u32 ag,.int .u32 sq,.int .i64 tl,.int .i64 us,lv,fv,.int .i64 nx,.bool so]),.row 34 [v],.row 66 [.nils],.row 43 [.nils],.row 24 c.c]) [] (Bz [] Q):=by
 have hrow:=dvC.hf hd
 have hvf:=hD.hf
 have hvr:hfs [v]=true:=by show (AM.hf v && true)=true;rw [hvf];rfl
 obtain ⟨cs,hs',hl',hn⟩:=hD.nth
 have hmm:=(BJ hok.1).1
 have hM':=hok.1
 unfold Cfg.may at hM'
 have hsw:=Bg (show Ad s by dsimp only at hmm;unfold Ad;omega)
 have hph:=fun (Q:AV→St→Prop) st k=>@Fn.u _ e 47 st Q phF [.agg (c.c++[.bool bk,.int .u32 ev,.int .i64 lo,.bool sp,.int .i64 po,.int .i64 dn,.bool nl,.bool br,hv,.int .u32 ag,.int .u32 sq,.int .i64 tl,.int .i64 us,lv,fv,.int .i64 nx,.bool so]),.int .i64 s] h47 (_,s,()) ⟨_,_,rfl,hd,_,_,rfl,⟨rfl,hsw⟩,rfl⟩ trivial k
 obtain ⟨hv',lv',fv',e0,⟨ho,o1,o2,o3,o4,-⟩,-⟩:=BE hd
 have hmi:∀ (Q:AV→St→Prop) st,Q (.tup [.int .i64 (Ed (ev,lo,sp,po,dn,nl,br) s),.int .i64 0]) st→ESc e 12 [.agg c.c,.agg [.int .u32 ev,.int .i64 lo,.bool sp,.int .i64 po,.int .i64 dn,.bool nl,.bool br],.int .i64 s] st Q:=fun Q st k=>U8 h12 ho hok.1 hok.2.1 h0 o1 o2 o3 o4 hsw Q st k
 have hpa:∀ (Q:AV→St→Prop) st,Q (.tup [.int .i64 (Bp c s (c.members-1)),.int .i64 0]) st→ESc e 48 [.agg c.c,.int .i64 s] st Q:=fun Q st k=>Fn.u (F:=parF) h48 (c,s,()) ⟨_,_,rfl,⟨rfl,ho⟩,_,_,rfl,⟨rfl,hsw⟩,rfl⟩ ⟨hok.1,h0⟩ k
 have hon:=HO (c:=c) (s:=s) (k:=c.members-1) (by dsimp only at hM';omega)
 have hpN:Bp c s (c.members-1)=(An c s:Int):=by unfold An;omega
 have hat:=fun (i:Nat) hi=>U1 hok hn (s:=s) h0 h49 (i:=i) hi
 have hDl:=hok.2.2.1.1
 unfold Cg at hno hyes
 unfold C7 at *
 unfold KQ at *
 dsimp only at hno hyes hat hM' hmm hDl
 have hbl:∀ i:Nat,(i:Int)≤c.members→Dr (AD D (s+1) (An c s) i):=by
  intro i
  induction i with
  | zero=>intro _ b hb;cases hb
  | succ i ih=>
   intro hi b hb
   unfold AD at hb
   rcases Zj7.1 hb with hb|hb
   ·exact ih (by omega) b hb
   ·split at hb
    ·cases hb
    ·obtain ⟨-,y,_,_,_,hy,-,hyr,-⟩:=hat i (by omega)
     rw [hy] at hb
     rw [List.mem_singleton.1 hb]
     exact hyr
 rw [hpN] at hpa hon
 have hpl:An c s<c.members.toNat:=by omega
 obtain ⟨xp,_,_,_,hxp,-,hxb,-⟩:=(hat (An c s) (by omega)).2
 rw [hxp] at hno hyes
 dsimp only [Option.map,Option.getD] at hno hyes
 replace hph:∀ (Q:AV→St→Prop) st,Q (.int .u8 (Hr (c,bk,(ev,lo,sp,po,dn,nl,br),hs,(ag,sq,tl,us,L),fs,nx,so) s:Int)) st→ESc e 47 [.agg (c.c++[.bool bk,.int .u32 ev,.int .i64 lo,.bool sp,.int .i64 po,.int .i64 dn,.bool nl,.bool br,hv,.int .u32 ag,.int .u32 sq,.int .i64 tl,.int .i64 us,lv,fv,.int .i64 nx,.bool so]),.int .i64 s] st Q:=hph
 generalize Hr _ s=ph at *
 generalize Ed _ s=fm at *
 have hol2:=O9 (D:=D) (a:=s+1) (p:=An c s)
 refine Bf hE ?_;conv=>whnf
 repeat' (first|(refine hmi _ _ ?_;conv=>whnf)|fail)
 refine Bf hE ?_;conv=>whnf
 repeat' (first|(refine hph _ _ ?_;conv=>whnf)|((first|refine w3 rfl rfl ?_ ?_|refine w6 rfl rfl ?_ ?_) <;> intro _ <;> first|(exfalso;omega)|(conv=>whnf))|fail)
 ·exact ⟨.inr rfl,_,_,rfl,rfl,hno (fun q=>by have:=q.1;contradiction) _ (fun i o h=>by rcases i with _|_|_|_|_|_ <;> first|(cases h;rfl)|cases h)⟩
 ·exact ⟨.inr rfl,_,_,rfl,rfl,hno (fun q=>by have:=q.2.1;omega) _ (fun i o h=>by rcases i with _|_|_|_|_|_ <;> first|(cases h;rfl)|cases h)⟩
 have hfm:fm=-1∧ph≤1:=⟨by assumption,by omega⟩
 refine Bf hE ?_;conv=>whnf
 repeat' (first|(refine hpa _ _ ?_;conv=>whnf)|fail)
 refine Bf hE ?_;conv=>whnf
 refine Bf hE ?_;conv=>whnf
 refine Bf hE ?_;conv=>whnf
 refine A0 hE c.members.toNat (fun i=>Eh s (An c s) 5 c.members (Bh xp (s+1)) (AD D (s+1) (An c s) i) i) (fun i=>([.row 33 (c.c++[.bool bk,.int .u32 ev,.int .i64 lo,.bool sp,.int .i64 po,.int .i64 dn,.bool nl,.bool br,hv,.int .u32 ag,.int .u32 sq,.int .i64 tl,.int .i64 us,lv,fv,.int .i64 nx,.bool so]),.row 34 [v],.row 66 [.nils],.row 43 [.nils],.row 24 c.c]:List AObj)++lkS (AD D (s+1) (An c s) i)) (fun i=>∀ j<i,Bw D j=false) (fun k h=>by omega) (AbsK.tells (rs:=[0,1,2,3,4]) ⟨rfl,by decide,⟨r9,r9,r9,r9,r9,r9,r9,r9,r9,r9,r9,trivial⟩,⟨⟨Ab hrow,by rw [Aa hrow];rfl⟩,⟨Ab hvr,by rw [Aa hvr];rfl⟩,r9,r9,⟨Ab rfl,by rw [Aa rfl];rfl⟩,trivial⟩⟩) ?_
 intro i hi hI
 have hbi:=hbl i (by omega)
 have hoi:=hol2 i
 have hst:=fun (y:Dk) (hy:D[i]?=some y)=>show AD D (s+1) (An c s) (i+1)=AD D (s+1) (An c s) i++(if i=An c s then [] else [Bh y (s+1)]) by
  show AD D (s+1) (An c s) i++_=_
  rw [hy];rfl
 have hrs:=fun (h:i=c.members.toNat)=>lkr5 (n:=0) hE h50 h51 (v:=v) (s:=s) (p:=An c s) (i:=i) (c:=c) (L:=AD D (s+1) (An c s) i) (old:=Bh xp (s+1)) hrow hvr  hbi (by rw [hoi];split <;> omega) hxb.1 hxb.2 (by omega) (by omega) (by omega) (Q:=Q) (fun he=>hno (fun q=>q.2.2.2 (by rw [← h];exact he))) (fun hne=>by
  have hq:=hyes ⟨hfm.1,hfm.2,fun j hj=>hI j (by omega),by rw [← h];exact hne⟩
  rw [← h] at hq;exact hq)
 by_cases hlt:i<c.members.toNat
 ·obtain ⟨hil,x,bv,wv,r,hx,hd2,hxx,huse⟩:=hat i (by omega)
  have hst:=hst x hx
  by_cases hdd:Bw D i=true
  ·have hnn:=hno (fun q=>by have:=q.2.2.1 i hlt;rw [hdd] at this;cases this)
   rw [Zjj hdd] at huse
   clear hrs hst hbi hoi hyes hno
   generalize AD D (s+1) (An c s) i=M at *
   unfold Eh
   generalize (match Nat.ble i (An c s) with|true=>AV.nils|false=>Am (Bh xp (s+1)))=ov
   rcases M with _|⟨b0,M⟩
   all_goals
    conv=>whnf
    repeat' (first|(refine Ai rfl hs' rfl hil hd2 ?_;conv=>whnf)|(refine Ay (cs:=[bv,wv,.bool (Bw D i)]) rfl ?_;conv=>whnf)|(refine huse _ _ ?_;conv=>whnf)|((first|refine w1 rfl rfl ?_ ?_|refine w6 rfl rfl ?_ ?_) <;> intro _ <;> first|(exfalso;omega)|(conv=>whnf))|(refine w7 rfl rfl (by omega) ?_;conv=>whnf)|fail)
    exact ⟨.inr rfl,_,_,rfl,rfl,hnn _ (fun i o h=>by rcases i with _|_|_|_|_|_ <;> first|(cases h;rfl)|cases h)⟩
  ·have hdf:Bw D i=false:=by simpa using hdd
   have hI':=AK hI hdf
   rw [Zjn hdd] at huse
   rw [hdf] at huse hd2
   clear hrs hyes hno
   by_cases hip:i=An c s
   ·rw [Zjj hip,Zkq] at hst
    rw [← hip] at hxp
    rw [hxp] at hx
    cases hx
    rw [hst]
    have hb1:Nat.ble i (An c s)=true:=Zj6 (by omega)
    have hb2:Nat.ble (i+1) (An c s)=false:=by rw [← Zle];intro e;have:=Zj3 e;omega
    have hip':(i:Int)=(An c s:Int):=by omega
    generalize AD D (s+1) (An c s) i=M at *
    unfold Eh
    rw [hb1,hb2]
    rcases M with _|⟨b0,M⟩
    ·conv=>whnf
     repeat' (first|(refine Ai rfl hs' rfl hil hd2 ?_;conv=>whnf)|(refine Ay (cs:=[bv,wv,.bool false]) rfl ?_;conv=>whnf)|(refine huse _ _ ?_;conv=>whnf)|((first|refine w1 rfl rfl ?_ ?_|refine w5 rfl rfl ?_ ?_|refine w6 rfl rfl ?_ ?_) <;> intro _ <;> first|(exfalso;omega)|(conv=>whnf))|((first|refine w7 rfl rfl (by omega) ?_|refine ⟨rfl,?_⟩);conv=>whnf)|fail)
     exact ⟨hlt,hI',AbsK.tells (rs:=[0,1,2,3,4]) ⟨rfl,by decide,⟨r9,r9,r9,r9,r9,r9,r9,r9,r9,r9,r9,trivial⟩,⟨⟨Ab hrow,by rw [Aa hrow];rfl⟩,⟨Ab hvr,by rw [Aa hvr];rfl⟩,r9,r9,⟨Ab rfl,by rw [Aa rfl];rfl⟩,trivial⟩⟩⟩
    ·conv=>whnf
     repeat' (first|(refine Ai rfl hs' rfl hil hd2 ?_;conv=>whnf)|(refine Ay (cs:=[bv,wv,.bool false]) rfl ?_;conv=>whnf)|(refine huse _ _ ?_;conv=>whnf)|((first|refine w1 rfl rfl ?_ ?_|refine w5 rfl rfl ?_ ?_|refine w6 rfl rfl ?_ ?_) <;> intro _ <;> first|(exfalso;omega)|(conv=>whnf))|((first|refine w7 rfl rfl (by omega) ?_|refine ⟨rfl,?_⟩);conv=>whnf)|fail)
     exact ⟨hlt,hI',AbsK.tells (rs:=[0,1,2,3,4,5]) ⟨rfl,by decide,⟨r9,r9,r9,r9,r9,r9,r9,r9,r9,r9,r9,trivial⟩,⟨⟨Ab hrow,by rw [Aa hrow];rfl⟩,⟨Ab hvr,by rw [Aa hvr];rfl⟩,r9,r9,⟨Ab rfl,by rw [Aa rfl];rfl⟩,⟨Ab (BO _),by rw [Aa (BO _)];rfl⟩,trivial⟩⟩⟩
   ·rw [Zjn hip] at hst
    rw [hst]
    have hb:Nat.ble (i+1) (An c s)=Nat.ble i (An c s):=by
     by_cases h:i<An c s
     ·rw [Zj6 (show i+1≤An c s by omega),Zj6 (show i≤An c s by omega)]
     ·rw [show Nat.ble (i+1) (An c s)=false by rw [← Zle];intro e;have:=Zj3 e;omega,show Nat.ble i (An c s)=false by rw [← Zle];intro e;have:=Zj3 e;omega]
    have hip':(i:Int)≠(An c s:Int):=by omega
    have hMl:(AD D (s+1) (An c s) i).length≤100:=by rw [hoi];split <;> omega
    generalize AD D (s+1) (An c s) i=M at *
    unfold Eh
    rw [hb]
    have hof:AM.hf (match Nat.ble i (An c s) with|true=>AV.nils|false=>Am (Bh xp (s+1)))=true:=by split <;> rfl
    generalize (match Nat.ble i (An c s) with|true=>AV.nils|false=>Am (Bh xp (s+1)))=ov at *
    rcases M with _|⟨b0,M⟩
    ·conv=>whnf
     repeat' (first|(refine Ai rfl hs' rfl hil hd2 ?_;conv=>whnf)|(refine Ay (cs:=[bv,wv,.bool false]) rfl ?_;conv=>whnf)|(refine huse _ _ ?_;conv=>whnf)|(refine CT (m:=1) rfl rfl rfl rfl (by decide) (by decide) ?_;conv=>whnf)|((first|refine w1 rfl rfl ?_ ?_|refine w5 rfl rfl ?_ ?_|refine w6 rfl rfl ?_ ?_) <;> intro _ <;> first|(exfalso;omega)|(conv=>whnf))|((first|refine w7 rfl rfl (by omega) ?_|refine ⟨rfl,?_⟩);conv=>whnf)|fail)
     exact ⟨hlt,hI',AbsK.tells (rs:=[0,1,2,3,4,6]) ⟨rfl,by decide,⟨r9,r9,r9,r9,r9,r9,r9,r9,t9 hof,r9,r9,trivial⟩,⟨⟨Ab hrow,by rw [Aa hrow];rfl⟩,⟨Ab hvr,by rw [Aa hvr];rfl⟩,r9,r9,⟨Ab rfl,by rw [Aa rfl];rfl⟩,⟨Ab rfl,rfl⟩,trivial⟩⟩⟩
    ·have hMl:M.length≤100:=by simp only [Zj9] at hMl;omega
     conv=>whnf
     repeat' (first|(refine Ai rfl hs' rfl hil hd2 ?_;conv=>whnf)|(refine Ay (cs:=[bv,wv,.bool false]) rfl ?_;conv=>whnf)|(refine huse _ _ ?_;conv=>whnf)|(refine Cy (m:=1) (n:=M.length+1) (old:=(b0::M).map Am) rfl rfl rfl rfl (by rw [Zjm];exact (Zki _).symm) rfl (by decide) (by omega) ?_;conv=>whnf)|((first|refine w1 rfl rfl ?_ ?_|refine w5 rfl rfl ?_ ?_|refine w6 rfl rfl ?_ ?_) <;> intro _ <;> first|(exfalso;omega)|(conv=>whnf))|((first|refine w7 rfl rfl (by omega) ?_|refine ⟨rfl,?_⟩);conv=>whnf)|fail)
     refine ⟨hlt,hI',AbsK.tells (rs:=[0,1,2,3,4,7]) ⟨rfl,by decide,⟨r9,r9,r9,r9,r9,r9,r9,⟨rfl,?_⟩,t9 hof,r9,r9,trivial⟩,⟨⟨Ab hrow,by rw [Aa hrow];rfl⟩,⟨Ab hvr,by rw [Aa hvr];rfl⟩,r9,r9,⟨Ab rfl,by rw [Aa rfl];rfl⟩,⟨Ab (BO _),?_⟩,trivial⟩⟩⟩
     ·show _=some (AV.sl 7 0 ((M++[Bh x (s+1)]).length+1) none)
      rw [Zjt];rfl
     ·show _=some (Ax _ (AObj.row 76 (((b0::M)++[Bh x (s+1)]).map Am)))
      rw [Aa (BO _),Zj4];rfl
 ·obtain rfl:i=c.members.toNat:=by omega
  have hrs:=hrs rfl
  have hM0:0<(AD D (s+1) (An c s) c.members.toNat).length:=by rw [hoi];split <;> omega
  have hbf:Nat.ble c.members.toNat (An c s)=false:=by rw [← Zle];intro e;have:=Zj3 e;omega
  have hmc:c.members≤(c.members.toNat:Int):=by omega
  clear hno hyes hst
  generalize AD D (s+1) (An c s) c.members.toNat=M at *
  unfold Eh at hrs ⊢
  rw [hbf] at hrs ⊢
  rcases M with _|⟨b0,M⟩
  ·exact absurd hM0 (by decide)
  ·conv=>whnf
   repeat' (first|((refine w1 rfl rfl ?_ ?_) <;> intro _ <;> first|(exfalso;omega)|(conv=>whnf))|fail)
   refine W.tells ?_ hrs
   exact (AbsK.tells (rs:=[0,1,2,3,4,5]) ⟨rfl,by decide,⟨r9,r9,r9,r9,r9,r9,r9,r9,r9,r9,r9,trivial⟩,⟨⟨Ab hrow,by rw [Aa hrow];rfl⟩,⟨Ab hvr,by rw [Aa hvr];rfl⟩,r9,r9,⟨Ab rfl,by rw [Aa rfl];rfl⟩,⟨Ab (BO _),by rw [Aa (BO _)];rfl⟩,trivial⟩⟩)
variable {od ac:List AV}
theorem lkr7 (hE:EM P e) (h50:Con e 50 fldF.O) (h51:Inl e 51 KW [.tmp 4]) {ev:Int}{L:List (List Nat)}(hrow:hfs (c.c++[.bool bk,.int .u32 ev,.int .i64 lo,.bool sp,.int .i64 po,.int .i64 dn,.bool nl,.bool br,hv,.int .u32 ag,.int .u32 sq,.int .i64 tl,.int .i64 us,lv,fv,.int .i64 nx,.bool so])=true) (hvr:hfs [v]=true) (hod:hfs od=true) (hac:hfs ac=true) (hol:od.length=n*1) (hal:ac.length=n*4) (hn1:n≤1000) (hL:Dr L) (hl:0<L.length∧L.length≤16) (ho1:old.length=128) (ho2:∀ x ∈ old,x<256) (hip:p<i) (hpi:(p:Int)<c.members∧c.members≤16) (hs0:0≤s∧s≤100) (hno:AA L=old→∀ st,(∀ i o,([.row 33 (c.c++[.bool bk,.int .u32 ev,.int .i64 lo,.bool sp,.int .i64 po,.int .i64 dn,.bool nl,.bool br,hv,.int .u32 ag,.int .u32 sq,.int .i64 tl,.int .i64 us,lv,fv,.int .i64 nx,.bool so]),.row 34 [v],.row 66 [.sl 5 0 n none],.row 43 [.sl 6 0 n none],.row 24 c.c,.row 3 od,.row 79 ac]:List AObj)[i]?=some o→st.get i=some o)→Q (.tup []) st) (hyes:AA L≠old→∀ st r5 r6,7≤r5→r5<r6→st.get 0=some (.row 33 (c.c++[.bool bk,.int .u32 ev,.int .i64 lo,.bool sp,.int .i64 po,.int .i64 dn,.bool nl,.bool br,hv,.int .u32 ag,.int .u32 sq,.int .i64 tl,.int .i64 us,lv,fv,.int .i64 nx,.bool so]))→st.get 1=some (.row 34 [v])→st.get 2=some (.row 66 [.sl r5 0 (n+1) none])→st.get 3=some (.row 43 [.sl r6 0 (n+1) none])→st.get 4=some (.row 24 c.c)→st.get r5=some (.row 3 (od++[.int .i64 s]))→st.get r6=some (.row 79 (ac++[.int .i64 (p:Int),.int .u8 1,.int .i64 (s+1),Am (AA L)]))→st.get 5=some .dead→st.get 6=some .dead→Q (.tup []) st):
 W P 7 none Mm (At (Eh s p 7 c.members old L i)) (Ae St0 (([.row 33 (c.c++[.bool bk,.int .u32 ev,.int .i64 lo,.bool sp,.int .i64 po,.int .i64 dn,.bool nl,.bool br,hv,.int .u32 ag,.int .u32 sq,.int .i64 tl,.int .i64 us,lv,fv,.int .i64 nx,.bool so]),.row 34 [v],.row 66 [.sl 5 0 n none],.row 43 [.sl 6 0 n none],.row 24 c.c,.row 3 od,.row 79 ac]:List AObj)++lkS L)) [] (Bz [] Q):=by
 have hLs:=Ky hL (by omega)
 have hc:∀ (Q:AV→St→Prop) st,Q (.tup [Am (AA L),.int .i64 0]) st→ESc e 50 [.fz L.length none (L.map Am)] st Q:=fun Q st k=>Fn.u (F:=fldF) h50 (L,()) ⟨_,_,rfl,⟨_,rfl,hLs⟩,rfl⟩ ⟨hL,hl.2⟩ k
 have hax:=GR hL
 have hsa:Sl 1 128 (Aj (AA L)) (Am (AA L)):=.inr (.inr ⟨_,rfl,by rw [show (Aj (AA L)).length=(AA L).length from Zjm ..];exact hax.1⟩)
 have hso:Sl 1 128 (Aj old) (Am old):=.inr (.inr ⟨_,rfl,by rw [show (Aj old).length=old.length from Zjm ..];exact ho1⟩)
 have hbf:Nat.ble i p=false:=by rw [← Zle];intro e;have:=Zj3 e;omega
 generalize AA L=A at *
 unfold Eh
 rw [hbf]
 rcases L with _|⟨b,L⟩
 ·exact absurd hl.1 (by simp)
 refine W.tells (AbsK.frz (n:=7) (e:=76) (cs:=(b::L).map Am) (tl:=[(0,.int .i64 s),(4,.ptr 2 0),(5,.ptr 3 0),(9,.int .i64 (p:Int)),(11,.sl 7 0 (L.length+1) none),(12,Am old)]) (os:=[.row 33 (c.c++[.bool bk,.int .u32 ev,.int .i64 lo,.bool sp,.int .i64 po,.int .i64 dn,.bool nl,.bool br,hv,.int .u32 ag,.int .u32 sq,.int .i64 tl,.int .i64 us,lv,fv,.int .i64 nx,.bool so]),.row 34 [v],.row 66 [.sl 5 0 n none],.row 43 [.sl 6 0 n none],.row 24 c.c,.row 3 od,.row 79 ac]) (rs:=[0,1,2,3,4,5,6,7]) ⟨rfl,by decide,⟨r9,r9,r9,r9,r9,r9,trivial⟩,⟨⟨Ab hrow,by rw [Aa hrow];rfl⟩,⟨Ab hvr,by rw [Aa hvr];rfl⟩,r9,r9,⟨Ab rfl,by rw [Aa rfl];rfl⟩,⟨Ab hod,by rw [Aa hod];rfl⟩,⟨Ab hac,by rw [Aa hac];rfl⟩,⟨Ab (BO _),by rw [Aa (BO _)];rfl⟩,trivial⟩⟩ rfl (BO _) rfl rfl rfl rfl rfl (by show [Cv 7 _ (.row 33 (c.c++[.bool bk,.int .u32 ev,.int .i64 lo,.bool sp,.int .i64 po,.int .i64 dn,.bool nl,.bool br,hv,.int .u32 ag,.int .u32 sq,.int .i64 tl,.int .i64 us,lv,fv,.int .i64 nx,.bool so])),Cv 7 _ (.row 34 [v]),.row 66 [.sl 5 0 n none],.row 43 [.sl 6 0 n none],Cv 7 _ (.row 24 c.c),Cv 7 _ (.row 3 od),Cv 7 _ (.row 79 ac)]=_;rw [D5 hrow,D5 hvr,D5 rfl,D5 hod,D5 hac])) ?_
 refine F9 hE ?_
 show VW P e 7 Mm (At [(0,.int .i64 s),(4,.ptr 2 0),(5,.ptr 3 0),(9,.int .i64 (p:Int)),(11,.fz (L.length+1) none ((b::L).map Am)),(12,Am old)]) (Ae St0 [.row 33 (c.c++[.bool bk,.int .u32 ev,.int .i64 lo,.bool sp,.int .i64 po,.int .i64 dn,.bool nl,.bool br,hv,.int .u32 ag,.int .u32 sq,.int .i64 tl,.int .i64 us,lv,fv,.int .i64 nx,.bool so]),.row 34 [v],.row 66 [.sl 5 0 n none],.row 43 [.sl 6 0 n none],.row 24 c.c,.row 3 od,.row 79 ac]) none [] _
 conv=>whnf
 repeat' (first|(refine hc _ _ ?_;conv=>whnf)|(refine ESc.inl h51 ?_;conv=>whnf)|(refine EY rfl hsa hax.2 ?_;conv=>whnf)|(refine EY rfl hso ho2 ?_;conv=>whnf)|(refine NF rfl rfl (fun heq=>?_) (fun hne=>?_) <;> conv=>whnf)|(refine Cy (m:=1) (n:=n) (old:=od) rfl rfl rfl rfl hol rfl (by decide) (by omega) ?_;conv=>whnf)|(refine Cy (m:=1) (n:=n) (old:=ac) rfl rfl rfl rfl hal rfl (by decide) (by omega) ?_;conv=>whnf)|((first|refine w7 rfl rfl (by omega) ?_|refine w12 rfl ?_|refine w13 rfl ?_);conv=>whnf)|fail)
 ·exact hno heq _ (fun i o h=>by rcases i with _|_|_|_|_|_|_|_ <;> first|(cases h;rfl)|cases h)
 ·exact hyes hne _ 8 10 (by decide) (by decide) rfl rfl rfl rfl rfl rfl rfl rfl rfl
theorem lk7 (hE:EM P e) (h12:Con e 12 misF.O) (h47:Con e 47 phF.O) (h48:Con e 48 parF.O) (h49:Con e 49 drdF.O) (h50:Con e 50 fldF.O) (h51:Inl e 51 KW [.tmp 4]) {ev:Int}(hd:dvC.r (c,bk,(ev,lo,sp,po,dn,nl,br),hs,(ag,sq,tl,us,L),fs,nx,so) (c.c++[.bool bk,.int .u32 ev,.int .i64 lo,.bool sp,.int .i64 po,.int .i64 dn,.bool nl,.bool br,hv,.int .u32 ag,.int .u32 sq,.int .i64 tl,.int .i64 us,lv,fv,.int .i64 nx,.bool so])) (hD:Ls dkC D v) (hok:Ih (c,bk,(ev,lo,sp,po,dn,nl,br),hs,(ag,sq,tl,us,L),fs,nx,so) D) (h0:0≤s∧s<AG c) (hod:hfs od=true) (hac:hfs ac=true) (hol:od.length=n*1) (hal:ac.length=n*4) (hn1:n≤1000) (hno:¬Cg (c,bk,(ev,lo,sp,po,dn,nl,br),hs,(ag,sq,tl,us,L),fs,nx,so) D s→∀ st,(∀ i o,([.row 33 (c.c++[.bool bk,.int .u32 ev,.int .i64 lo,.bool sp,.int .i64 po,.int .i64 dn,.bool nl,.bool br,hv,.int .u32 ag,.int .u32 sq,.int .i64 tl,.int .i64 us,lv,fv,.int .i64 nx,.bool so]),.row 34 [v],.row 66 [.sl 5 0 n none],.row 43 [.sl 6 0 n none],.row 24 c.c,.row 3 od,.row 79 ac]:List AObj)[i]?=some o→st.get i=some o)→Q (.tup []) st) (hyes:Cg (c,bk,(ev,lo,sp,po,dn,nl,br),hs,(ag,sq,tl,us,L),fs,nx,so) D s→∀ st r5 r6,7≤r5→r5<r6→st.get 0=some (.row 33 (c.c++[.bool bk,.int .u32 ev,.int .i64 lo,.bool sp,.int .i64 po,.int .i64 dn,.bool nl,.bool br,hv,.int .u32 ag,.int .u32 sq,.int .i64 tl,.int .i64 us,lv,fv,.int .i64 nx,.bool so]))→st.get 1=some (.row 34 [v])→st.get 2=some (.row 66 [.sl r5 0 (n+1) none])→st.get 3=some (.row 43 [.sl r6 0 (n+1) none])→st.get 4=some (.row 24 c.c)→st.get r5=some (.row 3 (od++[.int .i64 s]))→st.get r6=some (.row 79 (ac++[.int .i64 (An c s:Int),.int .u8 1,.int .i64 (s+1),Am (C7 c D s)]))→st.get 5=some .dead→st.get 6=some .dead→Q (.tup []) st):
 W P 7 none Qi (Al [.int .i64 s,.ptr 4 0,.ptr 0 0,.ptr 1 0,.ptr 2 0,.ptr 3 0] 0 .lf) (Ae St0 [.row 33 (c.c++[.bool bk,.int .u32 ev,.int .i64 lo,.bool sp,.int .i64 po,.int .i64 dn,.bool nl,.bool br,hv,.int .u32 ag,.int .u32 sq,.int .i64 tl,.int .i64 us,lv,fv,.int .i64 nx,.bool so]),.row 34 [v],.row 66 [.sl 5 0 n none],.row 43 [.sl 6 0 n none],.row 24 c.c,.row 3 od,.row 79 ac]) [] (Bz [] Q):=by
 have hrow:=dvC.hf hd
 have hvf:=hD.hf
 have hvr:hfs [v]=true:=by show (AM.hf v && true)=true;rw [hvf];rfl
 obtain ⟨cs,hs',hl',hn⟩:=hD.nth
 have hmm:=(BJ hok.1).1
 have hM':=hok.1
 unfold Cfg.may at hM'
 have hsw:=Bg (show Ad s by dsimp only at hmm;unfold Ad;omega)
 have hph:=fun (Q:AV→St→Prop) st k=>@Fn.u _ e 47 st Q phF [.agg (c.c++[.bool bk,.int .u32 ev,.int .i64 lo,.bool sp,.int .i64 po,.int .i64 dn,.bool nl,.bool br,hv,.int .u32 ag,.int .u32 sq,.int .i64 tl,.int .i64 us,lv,fv,.int .i64 nx,.bool so]),.int .i64 s] h47 (_,s,()) ⟨_,_,rfl,hd,_,_,rfl,⟨rfl,hsw⟩,rfl⟩ trivial k
 obtain ⟨hv',lv',fv',e0,⟨ho,o1,o2,o3,o4,-⟩,-⟩:=BE hd
 have hmi:∀ (Q:AV→St→Prop) st,Q (.tup [.int .i64 (Ed (ev,lo,sp,po,dn,nl,br) s),.int .i64 0]) st→ESc e 12 [.agg c.c,.agg [.int .u32 ev,.int .i64 lo,.bool sp,.int .i64 po,.int .i64 dn,.bool nl,.bool br],.int .i64 s] st Q:=fun Q st k=>U8 h12 ho hok.1 hok.2.1 h0 o1 o2 o3 o4 hsw Q st k
 have hpa:∀ (Q:AV→St→Prop) st,Q (.tup [.int .i64 (Bp c s (c.members-1)),.int .i64 0]) st→ESc e 48 [.agg c.c,.int .i64 s] st Q:=fun Q st k=>Fn.u (F:=parF) h48 (c,s,()) ⟨_,_,rfl,⟨rfl,ho⟩,_,_,rfl,⟨rfl,hsw⟩,rfl⟩ ⟨hok.1,h0⟩ k
 have hon:=HO (c:=c) (s:=s) (k:=c.members-1) (by dsimp only at hM';omega)
 have hpN:Bp c s (c.members-1)=(An c s:Int):=by unfold An;omega
 have hat:=fun (i:Nat) hi=>U1 hok hn (s:=s) h0 h49 (i:=i) hi
 have hDl:=hok.2.2.1.1
 unfold Cg at hno hyes
 unfold C7 at *
 unfold KQ at *
 dsimp only at hno hyes hat hM' hmm hDl
 have hbl:∀ i:Nat,(i:Int)≤c.members→Dr (AD D (s+1) (An c s) i):=by
  intro i
  induction i with
  | zero=>intro _ b hb;cases hb
  | succ i ih=>
   intro hi b hb
   unfold AD at hb
   rcases Zj7.1 hb with hb|hb
   ·exact ih (by omega) b hb
   ·split at hb
    ·cases hb
    ·obtain ⟨-,y,_,_,_,hy,-,hyr,-⟩:=hat i (by omega)
     rw [hy] at hb
     rw [List.mem_singleton.1 hb]
     exact hyr
 rw [hpN] at hpa hon
 have hpl:An c s<c.members.toNat:=by omega
 obtain ⟨xp,_,_,_,hxp,-,hxb,-⟩:=(hat (An c s) (by omega)).2
 rw [hxp] at hno hyes
 dsimp only [Option.map,Option.getD] at hno hyes
 replace hph:∀ (Q:AV→St→Prop) st,Q (.int .u8 (Hr (c,bk,(ev,lo,sp,po,dn,nl,br),hs,(ag,sq,tl,us,L),fs,nx,so) s:Int)) st→ESc e 47 [.agg (c.c++[.bool bk,.int .u32 ev,.int .i64 lo,.bool sp,.int .i64 po,.int .i64 dn,.bool nl,.bool br,hv,.int .u32 ag,.int .u32 sq,.int .i64 tl,.int .i64 us,lv,fv,.int .i64 nx,.bool so]),.int .i64 s] st Q:=hph
 generalize Hr _ s=ph at *
 generalize Ed _ s=fm at *
 have hol2:=O9 (D:=D) (a:=s+1) (p:=An c s)
 refine Bf hE ?_;conv=>whnf
 repeat' (first|(refine hmi _ _ ?_;conv=>whnf)|fail)
 refine Bf hE ?_;conv=>whnf
 repeat' (first|(refine hph _ _ ?_;conv=>whnf)|((first|refine w3 rfl rfl ?_ ?_|refine w6 rfl rfl ?_ ?_) <;> intro _ <;> first|(exfalso;omega)|(conv=>whnf))|fail)
 ·exact ⟨.inr rfl,_,_,rfl,rfl,hno (fun q=>by have:=q.1;contradiction) _ (fun i o h=>by rcases i with _|_|_|_|_|_|_|_ <;> first|(cases h;rfl)|cases h)⟩
 ·exact ⟨.inr rfl,_,_,rfl,rfl,hno (fun q=>by have:=q.2.1;omega) _ (fun i o h=>by rcases i with _|_|_|_|_|_|_|_ <;> first|(cases h;rfl)|cases h)⟩
 have hfm:fm=-1∧ph≤1:=⟨by assumption,by omega⟩
 refine Bf hE ?_;conv=>whnf
 repeat' (first|(refine hpa _ _ ?_;conv=>whnf)|fail)
 refine Bf hE ?_;conv=>whnf
 refine Bf hE ?_;conv=>whnf
 refine Bf hE ?_;conv=>whnf
 refine A0 hE c.members.toNat (fun i=>Eh s (An c s) 7 c.members (Bh xp (s+1)) (AD D (s+1) (An c s) i) i) (fun i=>([.row 33 (c.c++[.bool bk,.int .u32 ev,.int .i64 lo,.bool sp,.int .i64 po,.int .i64 dn,.bool nl,.bool br,hv,.int .u32 ag,.int .u32 sq,.int .i64 tl,.int .i64 us,lv,fv,.int .i64 nx,.bool so]),.row 34 [v],.row 66 [.sl 5 0 n none],.row 43 [.sl 6 0 n none],.row 24 c.c,.row 3 od,.row 79 ac]:List AObj)++lkS (AD D (s+1) (An c s) i)) (fun i=>∀ j<i,Bw D j=false) (fun k h=>by omega) (AbsK.tells (rs:=[0,1,2,3,4,5,6]) ⟨rfl,by decide,⟨r9,r9,r9,r9,r9,r9,r9,r9,r9,r9,r9,trivial⟩,⟨⟨Ab hrow,by rw [Aa hrow];rfl⟩,⟨Ab hvr,by rw [Aa hvr];rfl⟩,r9,r9,⟨Ab rfl,by rw [Aa rfl];rfl⟩,⟨Ab hod,by rw [Aa hod];rfl⟩,⟨Ab hac,by rw [Aa hac];rfl⟩,trivial⟩⟩) ?_
 intro i hi hI
 have hbi:=hbl i (by omega)
 have hoi:=hol2 i
 have hst:=fun (y:Dk) (hy:D[i]?=some y)=>show AD D (s+1) (An c s) (i+1)=AD D (s+1) (An c s) i++(if i=An c s then [] else [Bh y (s+1)]) by
  show AD D (s+1) (An c s) i++_=_
  rw [hy];rfl
 have hrs:=fun (h:i=c.members.toNat)=>lkr7 (n:=n) hE h50 h51 (v:=v) (s:=s) (p:=An c s) (i:=i) (c:=c) (L:=AD D (s+1) (An c s) i) (old:=Bh xp (s+1)) hrow hvr hod hac hol hal hn1 hbi (by rw [hoi];split <;> omega) hxb.1 hxb.2 (by omega) (by omega) (by omega) (Q:=Q) (fun he=>hno (fun q=>q.2.2.2 (by rw [← h];exact he))) (fun hne=>by
  have hq:=hyes ⟨hfm.1,hfm.2,fun j hj=>hI j (by omega),by rw [← h];exact hne⟩
  rw [← h] at hq;exact hq)
 by_cases hlt:i<c.members.toNat
 ·obtain ⟨hil,x,bv,wv,r,hx,hd2,hxx,huse⟩:=hat i (by omega)
  have hst:=hst x hx
  by_cases hdd:Bw D i=true
  ·have hnn:=hno (fun q=>by have:=q.2.2.1 i hlt;rw [hdd] at this;cases this)
   rw [Zjj hdd] at huse
   clear hrs hst hbi hoi hyes hno
   generalize AD D (s+1) (An c s) i=M at *
   unfold Eh
   generalize (match Nat.ble i (An c s) with|true=>AV.nils|false=>Am (Bh xp (s+1)))=ov
   rcases M with _|⟨b0,M⟩
   all_goals
    conv=>whnf
    repeat' (first|(refine Ai rfl hs' rfl hil hd2 ?_;conv=>whnf)|(refine Ay (cs:=[bv,wv,.bool (Bw D i)]) rfl ?_;conv=>whnf)|(refine huse _ _ ?_;conv=>whnf)|((first|refine w1 rfl rfl ?_ ?_|refine w6 rfl rfl ?_ ?_) <;> intro _ <;> first|(exfalso;omega)|(conv=>whnf))|(refine w7 rfl rfl (by omega) ?_;conv=>whnf)|fail)
    exact ⟨.inr rfl,_,_,rfl,rfl,hnn _ (fun i o h=>by rcases i with _|_|_|_|_|_|_|_ <;> first|(cases h;rfl)|cases h)⟩
  ·have hdf:Bw D i=false:=by simpa using hdd
   have hI':=AK hI hdf
   rw [Zjn hdd] at huse
   rw [hdf] at huse hd2
   clear hrs hyes hno
   by_cases hip:i=An c s
   ·rw [Zjj hip,Zkq] at hst
    rw [← hip] at hxp
    rw [hxp] at hx
    cases hx
    rw [hst]
    have hb1:Nat.ble i (An c s)=true:=Zj6 (by omega)
    have hb2:Nat.ble (i+1) (An c s)=false:=by rw [← Zle];intro e;have:=Zj3 e;omega
    have hip':(i:Int)=(An c s:Int):=by omega
    generalize AD D (s+1) (An c s) i=M at *
    unfold Eh
    rw [hb1,hb2]
    rcases M with _|⟨b0,M⟩
    ·conv=>whnf
     repeat' (first|(refine Ai rfl hs' rfl hil hd2 ?_;conv=>whnf)|(refine Ay (cs:=[bv,wv,.bool false]) rfl ?_;conv=>whnf)|(refine huse _ _ ?_;conv=>whnf)|((first|refine w1 rfl rfl ?_ ?_|refine w5 rfl rfl ?_ ?_|refine w6 rfl rfl ?_ ?_) <;> intro _ <;> first|(exfalso;omega)|(conv=>whnf))|((first|refine w7 rfl rfl (by omega) ?_|refine ⟨rfl,?_⟩);conv=>whnf)|fail)
     exact ⟨hlt,hI',AbsK.tells (rs:=[0,1,2,3,4,5,6]) ⟨rfl,by decide,⟨r9,r9,r9,r9,r9,r9,r9,r9,r9,r9,r9,trivial⟩,⟨⟨Ab hrow,by rw [Aa hrow];rfl⟩,⟨Ab hvr,by rw [Aa hvr];rfl⟩,r9,r9,⟨Ab rfl,by rw [Aa rfl];rfl⟩,⟨Ab hod,by rw [Aa hod];rfl⟩,⟨Ab hac,by rw [Aa hac];rfl⟩,trivial⟩⟩⟩
    ·conv=>whnf
     repeat' (first|(refine Ai rfl hs' rfl hil hd2 ?_;conv=>whnf)|(refine Ay (cs:=[bv,wv,.bool false]) rfl ?_;conv=>whnf)|(refine huse _ _ ?_;conv=>whnf)|((first|refine w1 rfl rfl ?_ ?_|refine w5 rfl rfl ?_ ?_|refine w6 rfl rfl ?_ ?_) <;> intro _ <;> first|(exfalso;omega)|(conv=>whnf))|((first|refine w7 rfl rfl (by omega) ?_|refine ⟨rfl,?_⟩);conv=>whnf)|fail)
     exact ⟨hlt,hI',AbsK.tells (rs:=[0,1,2,3,4,5,6,7]) ⟨rfl,by decide,⟨r9,r9,r9,r9,r9,r9,r9,r9,r9,r9,r9,trivial⟩,⟨⟨Ab hrow,by rw [Aa hrow];rfl⟩,⟨Ab hvr,by rw [Aa hvr];rfl⟩,r9,r9,⟨Ab rfl,by rw [Aa rfl];rfl⟩,⟨Ab hod,by rw [Aa hod];rfl⟩,⟨Ab hac,by rw [Aa hac];rfl⟩,⟨Ab (BO _),by rw [Aa (BO _)];rfl⟩,trivial⟩⟩⟩
   ·rw [Zjn hip] at hst
    rw [hst]
    have hb:Nat.ble (i+1) (An c s)=Nat.ble i (An c s):=by
     by_cases h:i<An c s
     ·rw [Zj6 (show i+1≤An c s by omega),Zj6 (show i≤An c s by omega)]
     ·rw [show Nat.ble (i+1) (An c s)=false by rw [← Zle];intro e;have:=Zj3 e;omega,show Nat.ble i (An c s)=false by rw [← Zle];intro e;have:=Zj3 e;omega]
    have hip':(i:Int)≠(An c s:Int):=by omega
    have hMl:(AD D (s+1) (An c s) i).length≤100:=by rw [hoi];split <;> omega
    generalize AD D (s+1) (An c s) i=M at *
    unfold Eh
    rw [hb]
    have hof:AM.hf (match Nat.ble i (An c s) with|true=>AV.nils|false=>Am (Bh xp (s+1)))=true:=by split <;> rfl
    generalize (match Nat.ble i (An c s) with|true=>AV.nils|false=>Am (Bh xp (s+1)))=ov at *
    rcases M with _|⟨b0,M⟩
    ·conv=>whnf
     repeat' (first|(refine Ai rfl hs' rfl hil hd2 ?_;conv=>whnf)|(refine Ay (cs:=[bv,wv,.bool false]) rfl ?_;conv=>whnf)|(refine huse _ _ ?_;conv=>whnf)|(refine CT (m:=1) rfl rfl rfl rfl (by decide) (by decide) ?_;conv=>whnf)|((first|refine w1 rfl rfl ?_ ?_|refine w5 rfl rfl ?_ ?_|refine w6 rfl rfl ?_ ?_) <;> intro _ <;> first|(exfalso;omega)|(conv=>whnf))|((first|refine w7 rfl rfl (by omega) ?_|refine ⟨rfl,?_⟩);conv=>whnf)|fail)
     exact ⟨hlt,hI',AbsK.tells (rs:=[0,1,2,3,4,5,6,8]) ⟨rfl,by decide,⟨r9,r9,r9,r9,r9,r9,r9,r9,t9 hof,r9,r9,trivial⟩,⟨⟨Ab hrow,by rw [Aa hrow];rfl⟩,⟨Ab hvr,by rw [Aa hvr];rfl⟩,r9,r9,⟨Ab rfl,by rw [Aa rfl];rfl⟩,⟨Ab hod,by rw [Aa hod];rfl⟩,⟨Ab hac,by rw [Aa hac];rfl⟩,⟨Ab rfl,rfl⟩,trivial⟩⟩⟩
    ·have hMl:M.length≤100:=by simp only [Zj9] at hMl;omega
     conv=>whnf
     repeat' (first|(refine Ai rfl hs' rfl hil hd2 ?_;conv=>whnf)|(refine Ay (cs:=[bv,wv,.bool false]) rfl ?_;conv=>whnf)|(refine huse _ _ ?_;conv=>whnf)|(refine Cy (m:=1) (n:=M.length+1) (old:=(b0::M).map Am) rfl rfl rfl rfl (by rw [Zjm];exact (Zki _).symm) rfl (by decide) (by omega) ?_;conv=>whnf)|((first|refine w1 rfl rfl ?_ ?_|refine w5 rfl rfl ?_ ?_|refine w6 rfl rfl ?_ ?_) <;> intro _ <;> first|(exfalso;omega)|(conv=>whnf))|((first|refine w7 rfl rfl (by omega) ?_|refine ⟨rfl,?_⟩);conv=>whnf)|fail)
     refine ⟨hlt,hI',AbsK.tells (rs:=[0,1,2,3,4,5,6,9]) ⟨rfl,by decide,⟨r9,r9,r9,r9,r9,r9,r9,⟨rfl,?_⟩,t9 hof,r9,r9,trivial⟩,⟨⟨Ab hrow,by rw [Aa hrow];rfl⟩,⟨Ab hvr,by rw [Aa hvr];rfl⟩,r9,r9,⟨Ab rfl,by rw [Aa rfl];rfl⟩,⟨Ab hod,by rw [Aa hod];rfl⟩,⟨Ab hac,by rw [Aa hac];rfl⟩,⟨Ab (BO _),?_⟩,trivial⟩⟩⟩
     ·show _=some (AV.sl 9 0 ((M++[Bh x (s+1)]).length+1) none)
      rw [Zjt];rfl
     ·show _=some (Ax _ (AObj.row 76 (((b0::M)++[Bh x (s+1)]).map Am)))
      rw [Aa (BO _),Zj4];rfl
 ·obtain rfl:i=c.members.toNat:=by omega
  have hrs:=hrs rfl
  have hM0:0<(AD D (s+1) (An c s) c.members.toNat).length:=by rw [hoi];split <;> omega
  have hbf:Nat.ble c.members.toNat (An c s)=false:=by rw [← Zle];intro e;have:=Zj3 e;omega
  have hmc:c.members≤(c.members.toNat:Int):=by omega
  clear hno hyes hst
  generalize AD D (s+1) (An c s) c.members.toNat=M at *
  unfold Eh at hrs ⊢
  rw [hbf] at hrs ⊢
  rcases M with _|⟨b0,M⟩
  ·exact absurd hM0 (by decide)
  ·conv=>whnf
   repeat' (first|((refine w1 rfl rfl ?_ ?_) <;> intro _ <;> first|(exfalso;omega)|(conv=>whnf))|fail)
   refine W.tells ?_ hrs
   exact (AbsK.tells (rs:=[0,1,2,3,4,5,6,7]) ⟨rfl,by decide,⟨r9,r9,r9,r9,r9,r9,r9,r9,r9,r9,r9,trivial⟩,⟨⟨Ab hrow,by rw [Aa hrow];rfl⟩,⟨Ab hvr,by rw [Aa hvr];rfl⟩,r9,r9,⟨Ab rfl,by rw [Aa rfl];rfl⟩,⟨Ab hod,by rw [Aa hod];rfl⟩,⟨Ab hac,by rw [Aa hac];rfl⟩,⟨Ab (BO _),by rw [Aa (BO _)];rfl⟩,trivial⟩⟩)
open Classical in
noncomputable def AX (d:Dv) (D:List Dk) (i:Nat):List Nat:=(List.range i).filter fun s=>decide (Cg d D (s:Int))
def DC (O:List Nat):List AV:=O.map fun (s:Nat)=>AV.int .i64 (s:Int)
noncomputable def CS (c:Cfg) (D:List Dk) (O:List Nat):List AV:=O.flatMap fun (s:Nat)=>[AV.int .i64 (An c s:Int),.int .u8 1,.int .i64 ((s:Int)+1),Am (C7 c D s)]
theorem Z2 {d:Dv}{D:List Dk}{i:Nat}(h:Cg d D (i:Int)):AX d D (i+1)=AX d D i++[i]:=by
 unfold AX;rw [List.range_succ,List.filter_append];simp [h]
theorem Zb0 {d:Dv}{D:List Dk}{i:Nat}(h:¬Cg d D (i:Int)):AX d D (i+1)=AX d D i:=by
 unfold AX;rw [List.range_succ,List.filter_append];simp [h]
theorem LJ (d:Dv) (D:List Dk) (i:Nat):(AX d D i).length≤i:=by
 unfold AX
 exact Nat.le_trans (List.length_filter_le _ _) (by simp)
theorem Cc (O:List Nat):hfs (DC O)=true:=hfs_iff.2 fun v hv=>by
 obtain ⟨s,_,rfl⟩:=Zkf.1 hv;rfl
theorem Tm (O:List Nat):(DC O).length=O.length*1:=by unfold DC;rw [Zjm,Zki]
theorem Cs (c:Cfg) (D:List Dk) (O:List Nat):hfs (CS c D O)=true:=hfs_iff.2 fun v hv=>by
 obtain ⟨s,_,hv⟩:=List.mem_flatMap.1 hv
 simp only [Zkp,List.not_mem_nil,or_false] at hv
 rcases hv with rfl|rfl|rfl|rfl <;> rfl
theorem OY (c:Cfg) (D:List Dk) (O:List Nat):(CS c D O).length=O.length*4:=by
 unfold CS
 induction O with
 | nil=>rfl
 | cons s O ih=>rw [List.flatMap_cons,Zjt,ih,Zj9];simp;omega
theorem Zb1 (O:List Nat) (i:Nat):DC (O++[i])=DC O++[.int .i64 (i:Int)]:=by unfold DC;rw [Zj4];rfl
theorem Zep (c:Cfg) (D:List Dk) (O:List Nat) (i:Nat):CS c D (O++[i])=CS c D O++[.int .i64 (An c i:Int),.int .u8 1,.int .i64 ((i:Int)+1),Am (C7 c D i)]:=by unfold CS;rw [List.flatMap_append];rfl
noncomputable def B6 (l:List AV) (v:AV) (c:Cfg) (D:List Dk) (O:List Nat):List AObj:=match O with
 | []=>[.row 33 l,.row 34 [v],.row 66 [.nils],.row 43 [.nils],.row 24 c.c]
 | _::T=>[.row 33 l,.row 34 [v],.row 66 [.sl 5 0 (T.length+1) none],.row 43 [.sl 6 0 (T.length+1) none],.row 24 c.c,.row 3 (DC O),.row 79 (CS c D O)]
noncomputable def CZ (l:List AV) (v:AV) (c:Cfg) (D:List Dk) (O:List Nat) (i:Nat):List AObj:=match O with
 | []=>[.row 33 l,.row 34 [v],.row 66 [.sl 5 0 1 none],.row 43 [.sl 6 0 1 none],.row 24 c.c,.row 3 (DC [i]),.row 79 (CS c D [i])]
 | _::T=>[.row 33 l,.row 34 [v],.row 66 [.sl 7 0 (T.length+1+1) none],.row 43 [.sl 8 0 (T.length+1+1) none],.row 24 c.c,.dead,.dead,.row 3 (DC (O++[i])),.row 79 (CS c D (O++[i]))]
def FM (O:List Nat):Nat:=match O with
 | []=>5
 | _::_=>7
def J3 (i:Nat):List AV:=[.int .i64 (i:Int),.ptr 4 0,.ptr 0 0,.ptr 1 0,.ptr 2 0,.ptr 3 0]
def lkO (k:Nat) (s:St) (os2:List AObj):St→Prop:=fun s'=>s'=Ae (BQ s (List.range k) (os2.take k)) (os2.drop k)
def lkR (d:Dv) (l:List AV) (D:List Dk) (v:AV) (args:List AV) (s:St) (u:AV) (s':St):Prop:=∃ i:Nat,(i:Int)<AG d.1∧args=J3 i∧s=Ae St0 (B6 l v d.1 D (AX d D i))∧u=.tup []∧(Cg d D (i:Int)→lkO (FM (AX d D i)) s (CZ l v d.1 D (AX d D i) i) s')∧(¬Cg d D (i:Int)→lkO (FM (AX d D i)) s (B6 l v d.1 D (AX d D i)) s')
theorem Zim (hE:EM P e) (h12:Con e 12 misF.O) (h47:Con e 47 phF.O) (h48:Con e 48 parF.O) (h49:Con e 49 drdF.O) (h50:Con e 50 fldF.O) (h51:Inl e 51 KW [.tmp 4]) {l:List AV}(hd:dvC.r d l) (hD:Ls dkC D v) (hok:Ih d D):OvOk P 46 (relS (lkR d l D v)):=by
 refine LZ g46.b ?_
 rintro args s u s' ⟨i,hi,rfl,rfl,rfl,hy,hn⟩
 have hrow:=dvC.hf hd
 have hvf:=hD.hf
 have hvr:hfs [v]=true:=by show (AM.hf v && true)=true;rw [hvf];rfl
 have hmm:=(BJ hok.1).1
 have h0:0≤(i:Int)∧(i:Int)<AG d.1:=⟨Zky _,hi⟩
 have hol:=LJ d D i
 obtain ⟨c,bk,⟨ev,lo,sp,po,dn,nl,br⟩,hs,⟨ag,sq,tl,us,L⟩,fs,nx,so⟩:=d
 obtain ⟨hv,lv,fv,rfl,-⟩:=BE hd
 dsimp only at hi hmm hy hn h0
 generalize hO:AX (c,bk,(ev,lo,sp,po,dn,nl,br),hs,(ag,sq,tl,us,L),fs,nx,so) D i=O at *
 rcases O with _|⟨a,T⟩
 ·have key:∀ os2:List AObj,(Cg (c,bk,(ev,lo,sp,po,dn,nl,br),hs,(ag,sq,tl,us,L),fs,nx,so) D (i:Int)→os2=CZ (c.c++[.bool bk,.int .u32 ev,.int .i64 lo,.bool sp,.int .i64 po,.int .i64 dn,.bool nl,.bool br,hv,.int .u32 ag,.int .u32 sq,.int .i64 tl,.int .i64 us,lv,fv,.int .i64 nx,.bool so]) v c D ([]:List Nat) i)→(¬Cg (c,bk,(ev,lo,sp,po,dn,nl,br),hs,(ag,sq,tl,us,L),fs,nx,so) D (i:Int)→os2=B6 (c.c++[.bool bk,.int .u32 ev,.int .i64 lo,.bool sp,.int .i64 po,.int .i64 dn,.bool nl,.bool br,hv,.int .u32 ag,.int .u32 sq,.int .i64 tl,.int .i64 us,lv,fv,.int .i64 nx,.bool so]) v c D ([]:List Nat))→C1 P 46 (J3 i) (Ae St0 (B6 (c.c++[.bool bk,.int .u32 ev,.int .i64 lo,.bool sp,.int .i64 po,.int .i64 dn,.bool nl,.bool br,hv,.int .u32 ag,.int .u32 sq,.int .i64 tl,.int .i64 us,lv,fv,.int .i64 nx,.bool so]) v c D ([]:List Nat))) (fun w s'=>Tells P 5 (At [(0,w)]) s' [] (At [(0,.tup [])]) (Ae St0 os2) []):=fun os2 e1 e2=>by
   refine C1.of_W g46.f g46.c (lk5 hE h12 h47 h48 h49 h50 h51 hd hD hok h0 (fun hp st hg=>?_) (fun hp st r5 r6 g1 g2 f0 f1 f2 f3 f4 f5 f6=>?_))
   ·rw [e2 hp]
    exact AbsK.tells (rs:=[0,1,2,3,4]) ⟨rfl,by decide,⟨r9,trivial⟩,⟨⟨Ab hrow,by rw [Aa hrow];exact hg 0 _ rfl⟩,⟨Ab hvr,by rw [Aa hvr];exact hg 1 _ rfl⟩,⟨rfl,hg 2 _ rfl⟩,⟨rfl,hg 3 _ rfl⟩,⟨Ab rfl,by rw [Aa rfl];exact hg 4 _ rfl⟩,trivial⟩⟩
   ·rw [e1 hp]
    exact AbsK.tells (rs:=[0,1,2,3,4,r5,r6]) ⟨rfl,by simp;omega,⟨r9,trivial⟩,⟨⟨Ab hrow,by rw [Aa hrow];exact f0⟩,⟨Ab hvr,by rw [Aa hvr];exact f1⟩,⟨rfl,f2⟩,⟨rfl,f3⟩,⟨Ab rfl,by rw [Aa rfl];exact f4⟩,⟨Ab (Cc _),by rw [Aa (Cc _)];exact f5⟩,⟨Ab (Cs _ _ _),by rw [Aa (Cs _ _ _)];exact f6⟩,trivial⟩⟩
  have fr:=fun os2 (hk2:5≤os2.length) (hn2:os2.length<1000000) (hp2:∀ o ∈ os2,HM o=true) k2=>RC (P:=P) (f:=46) (args0:=J3 i) (u:=.tup []) (os:=B6 (c.c++[.bool bk,.int .u32 ev,.int .i64 lo,.bool sp,.int .i64 po,.int .i64 dn,.bool nl,.bool br,hv,.int .u32 ag,.int .u32 sq,.int .i64 tl,.int .i64 us,lv,fv,.int .i64 nx,.bool so]) v c D ([]:List Nat)) (os2:=os2) (rs:=[0,1,2,3,4]) (s:=Ae St0 (B6 (c.c++[.bool bk,.int .u32 ev,.int .i64 lo,.bool sp,.int .i64 po,.int .i64 dn,.bool nl,.bool br,hv,.int .u32 ag,.int .u32 sq,.int .i64 tl,.int .i64 us,lv,fv,.int .i64 nx,.bool so]) v c D ([]:List Nat))) (by decide) rfl (fun j o r h1 h2=>by
   rcases j with _|_|_|_|_|j
   ·cases h1;cases h2;exact ⟨by rw [Aa hrow];rfl,Ab hrow,rfl⟩
   ·cases h1;cases h2;exact ⟨by rw [Aa hvr];rfl,Ab hvr,rfl⟩
   ·cases h1;cases h2;exact ⟨rfl,rfl,rfl⟩
   ·cases h1;cases h2;exact ⟨rfl,rfl,rfl⟩
   ·cases h1;cases h2;exact ⟨by rw [Aa rfl];rfl,Ab rfl,rfl⟩
   ·cases h1) (fun j hj=>by
   rcases j with _|_|_|_|_|j
   ·exact .inl rfl
   ·exact .inl rfl
   ·exact .inl rfl
   ·exact .inl rfl
   ·exact .inl rfl
   ·exact absurd (show j+1+1+1+1+1<5 from hj) (by omega)) rfl hk2 hn2 hp2 k2
  by_cases hp:Cg (c,bk,(ev,lo,sp,po,dn,nl,br),hs,(ag,sq,tl,us,L),fs,nx,so) D (i:Int)
  ·have:=fr (CZ (c.c++[.bool bk,.int .u32 ev,.int .i64 lo,.bool sp,.int .i64 po,.int .i64 dn,.bool nl,.bool br,hv,.int .u32 ag,.int .u32 sq,.int .i64 tl,.int .i64 us,lv,fv,.int .i64 nx,.bool so]) v c D ([]:List Nat) i) (by show 5≤7;decide) (by show 7<1000000;decide) (fun o ho=>by simp [CZ] at ho;rcases ho with rfl|rfl|rfl|rfl|rfl|rfl|rfl <;> rfl) (key _ (fun _=>rfl) fun q=>absurd hp q)
   refine this.mono ?_
   rintro w s'' ⟨rfl,rfl⟩
   refine ⟨rfl,Eq.trans ?_ (hy hp).symm⟩
   have m1:((CZ (c.c++[.bool bk,.int .u32 ev,.int .i64 lo,.bool sp,.int .i64 po,.int .i64 dn,.bool nl,.bool br,hv,.int .u32 ag,.int .u32 sq,.int .i64 tl,.int .i64 us,lv,fv,.int .i64 nx,.bool so]) v c D ([]:List Nat) i).take 5).map (Ax (AB [0,1,2,3,4] 5))=(CZ (c.c++[.bool bk,.int .u32 ev,.int .i64 lo,.bool sp,.int .i64 po,.int .i64 dn,.bool nl,.bool br,hv,.int .u32 ag,.int .u32 sq,.int .i64 tl,.int .i64 us,lv,fv,.int .i64 nx,.bool so]) v c D ([]:List Nat) i).take 5:=by
    show [Ax (AB [0,1,2,3,4] 5) (.row 33 (c.c++[.bool bk,.int .u32 ev,.int .i64 lo,.bool sp,.int .i64 po,.int .i64 dn,.bool nl,.bool br,hv,.int .u32 ag,.int .u32 sq,.int .i64 tl,.int .i64 us,lv,fv,.int .i64 nx,.bool so])),Ax (AB [0,1,2,3,4] 5) (.row 34 [v]),.row 66 [.sl 5 0 1 none],.row 43 [.sl 6 0 1 none],Ax (AB [0,1,2,3,4] 5) (.row 24 c.c)]=_;rw [Aa hrow,Aa hvr,Aa (cs:=c.c) rfl];rfl
   have m2:((CZ (c.c++[.bool bk,.int .u32 ev,.int .i64 lo,.bool sp,.int .i64 po,.int .i64 dn,.bool nl,.bool br,hv,.int .u32 ag,.int .u32 sq,.int .i64 tl,.int .i64 us,lv,fv,.int .i64 nx,.bool so]) v c D ([]:List Nat) i).drop 5).map (Ax (AB [0,1,2,3,4] 5))=(CZ (c.c++[.bool bk,.int .u32 ev,.int .i64 lo,.bool sp,.int .i64 po,.int .i64 dn,.bool nl,.bool br,hv,.int .u32 ag,.int .u32 sq,.int .i64 tl,.int .i64 us,lv,fv,.int .i64 nx,.bool so]) v c D ([]:List Nat) i).drop 5:=by
    show [Ax (AB [0,1,2,3,4] 5) (.row 3 (DC [i])),Ax (AB [0,1,2,3,4] 5) (.row 79 (CS c D [i]))]=_;rw [Aa (Cc _),Aa (Cs _ _ _)];rfl
   exact congr (congrArg (fun a b=>Ae (BQ _ _ a) b) m1) m2
  ·have:=fr (B6 (c.c++[.bool bk,.int .u32 ev,.int .i64 lo,.bool sp,.int .i64 po,.int .i64 dn,.bool nl,.bool br,hv,.int .u32 ag,.int .u32 sq,.int .i64 tl,.int .i64 us,lv,fv,.int .i64 nx,.bool so]) v c D ([]:List Nat)) (by show 5≤5;decide) (by show 5<1000000;decide) (fun o ho=>by simp [B6] at ho;rcases ho with rfl|rfl|rfl|rfl|rfl <;> rfl) (key _ (fun q=>absurd q hp) fun _=>rfl)
   refine this.mono ?_
   rintro w s'' ⟨rfl,rfl⟩
   refine ⟨rfl,Eq.trans ?_ (hn hp).symm⟩
   have m1:((B6 (c.c++[.bool bk,.int .u32 ev,.int .i64 lo,.bool sp,.int .i64 po,.int .i64 dn,.bool nl,.bool br,hv,.int .u32 ag,.int .u32 sq,.int .i64 tl,.int .i64 us,lv,fv,.int .i64 nx,.bool so]) v c D ([]:List Nat)).take 5).map (Ax (AB [0,1,2,3,4] 5))=(B6 (c.c++[.bool bk,.int .u32 ev,.int .i64 lo,.bool sp,.int .i64 po,.int .i64 dn,.bool nl,.bool br,hv,.int .u32 ag,.int .u32 sq,.int .i64 tl,.int .i64 us,lv,fv,.int .i64 nx,.bool so]) v c D ([]:List Nat)).take 5:=by
    show [Ax (AB [0,1,2,3,4] 5) (.row 33 (c.c++[.bool bk,.int .u32 ev,.int .i64 lo,.bool sp,.int .i64 po,.int .i64 dn,.bool nl,.bool br,hv,.int .u32 ag,.int .u32 sq,.int .i64 tl,.int .i64 us,lv,fv,.int .i64 nx,.bool so])),Ax (AB [0,1,2,3,4] 5) (.row 34 [v]),.row 66 [.nils],.row 43 [.nils],Ax (AB [0,1,2,3,4] 5) (.row 24 c.c)]=_;rw [Aa hrow,Aa hvr,Aa (cs:=c.c) rfl];rfl
   have m2:((B6 (c.c++[.bool bk,.int .u32 ev,.int .i64 lo,.bool sp,.int .i64 po,.int .i64 dn,.bool nl,.bool br,hv,.int .u32 ag,.int .u32 sq,.int .i64 tl,.int .i64 us,lv,fv,.int .i64 nx,.bool so]) v c D ([]:List Nat)).drop 5).map (Ax (AB [0,1,2,3,4] 5))=(B6 (c.c++[.bool bk,.int .u32 ev,.int .i64 lo,.bool sp,.int .i64 po,.int .i64 dn,.bool nl,.bool br,hv,.int .u32 ag,.int .u32 sq,.int .i64 tl,.int .i64 us,lv,fv,.int .i64 nx,.bool so]) v c D ([]:List Nat)).drop 5:=by
    rfl
   exact congr (congrArg (fun a b=>Ae (BQ _ _ a) b) m1) m2
 ·have key:∀ os2:List AObj,(Cg (c,bk,(ev,lo,sp,po,dn,nl,br),hs,(ag,sq,tl,us,L),fs,nx,so) D (i:Int)→os2=CZ (c.c++[.bool bk,.int .u32 ev,.int .i64 lo,.bool sp,.int .i64 po,.int .i64 dn,.bool nl,.bool br,hv,.int .u32 ag,.int .u32 sq,.int .i64 tl,.int .i64 us,lv,fv,.int .i64 nx,.bool so]) v c D (a::T) i)→(¬Cg (c,bk,(ev,lo,sp,po,dn,nl,br),hs,(ag,sq,tl,us,L),fs,nx,so) D (i:Int)→os2=B6 (c.c++[.bool bk,.int .u32 ev,.int .i64 lo,.bool sp,.int .i64 po,.int .i64 dn,.bool nl,.bool br,hv,.int .u32 ag,.int .u32 sq,.int .i64 tl,.int .i64 us,lv,fv,.int .i64 nx,.bool so]) v c D (a::T))→C1 P 46 (J3 i) (Ae St0 (B6 (c.c++[.bool bk,.int .u32 ev,.int .i64 lo,.bool sp,.int .i64 po,.int .i64 dn,.bool nl,.bool br,hv,.int .u32 ag,.int .u32 sq,.int .i64 tl,.int .i64 us,lv,fv,.int .i64 nx,.bool so]) v c D (a::T))) (fun w s'=>Tells P 7 (At [(0,w)]) s' [] (At [(0,.tup [])]) (Ae St0 os2) []):=fun os2 e1 e2=>by
   refine C1.of_W g46.f g46.c (lk7 hE h12 h47 h48 h49 h50 h51 hd hD hok h0 (Cc _) (Cs _ _ _) (Tm _) (OY _ _ _) (by simp only [Zj9] at hol ⊢;omega) (fun hp st hg=>?_) (fun hp st r5 r6 g1 g2 f0 f1 f2 f3 f4 f5 f6 fd5 fd6=>?_))
   ·rw [e2 hp]
    exact AbsK.tells (rs:=[0,1,2,3,4,5,6]) ⟨rfl,by decide,⟨r9,trivial⟩,⟨⟨Ab hrow,by rw [Aa hrow];exact hg 0 _ rfl⟩,⟨Ab hvr,by rw [Aa hvr];exact hg 1 _ rfl⟩,⟨rfl,hg 2 _ rfl⟩,⟨rfl,hg 3 _ rfl⟩,⟨Ab rfl,by rw [Aa rfl];exact hg 4 _ rfl⟩,⟨Ab (Cc _),by rw [Aa (Cc _)];exact hg 5 _ rfl⟩,⟨Ab (Cs _ _ _),by rw [Aa (Cs _ _ _)];exact hg 6 _ rfl⟩,trivial⟩⟩
   ·rw [e1 hp]
    rw [← Zb1] at f5
    rw [← Zep] at f6
    exact AbsK.tells (rs:=[0,1,2,3,4,5,6,r5,r6]) ⟨rfl,by simp;omega,⟨r9,trivial⟩,⟨⟨Ab hrow,by rw [Aa hrow];exact f0⟩,⟨Ab hvr,by rw [Aa hvr];exact f1⟩,⟨rfl,f2⟩,⟨rfl,f3⟩,⟨Ab rfl,by rw [Aa rfl];exact f4⟩,⟨rfl,fd5⟩,⟨rfl,fd6⟩,⟨Ab (Cc _),by rw [Aa (Cc _)];exact f5⟩,⟨Ab (Cs _ _ _),by rw [Aa (Cs _ _ _)];exact f6⟩,trivial⟩⟩
  have fr:=fun os2 (hk2:7≤os2.length) (hn2:os2.length<1000000) (hp2:∀ o ∈ os2,HM o=true) k2=>RC (P:=P) (f:=46) (args0:=J3 i) (u:=.tup []) (os:=B6 (c.c++[.bool bk,.int .u32 ev,.int .i64 lo,.bool sp,.int .i64 po,.int .i64 dn,.bool nl,.bool br,hv,.int .u32 ag,.int .u32 sq,.int .i64 tl,.int .i64 us,lv,fv,.int .i64 nx,.bool so]) v c D (a::T)) (os2:=os2) (rs:=[0,1,2,3,4,5,6]) (s:=Ae St0 (B6 (c.c++[.bool bk,.int .u32 ev,.int .i64 lo,.bool sp,.int .i64 po,.int .i64 dn,.bool nl,.bool br,hv,.int .u32 ag,.int .u32 sq,.int .i64 tl,.int .i64 us,lv,fv,.int .i64 nx,.bool so]) v c D (a::T))) (by decide) rfl (fun j o r h1 h2=>by
   rcases j with _|_|_|_|_|_|_|j
   ·cases h1;cases h2;exact ⟨by rw [Aa hrow];rfl,Ab hrow,rfl⟩
   ·cases h1;cases h2;exact ⟨by rw [Aa hvr];rfl,Ab hvr,rfl⟩
   ·cases h1;cases h2;exact ⟨rfl,rfl,rfl⟩
   ·cases h1;cases h2;exact ⟨rfl,rfl,rfl⟩
   ·cases h1;cases h2;exact ⟨by rw [Aa rfl];rfl,Ab rfl,rfl⟩
   ·cases h1;cases h2;exact ⟨by rw [Aa (Cc _)];rfl,Ab (Cc _),rfl⟩
   ·cases h1;cases h2;exact ⟨by rw [Aa (Cs _ _ _)];rfl,Ab (Cs _ _ _),rfl⟩
   ·cases h1) (fun j hj=>by
   rcases j with _|_|_|_|_|_|_|j
   ·exact .inl rfl
   ·exact .inl rfl
   ·exact .inl rfl
   ·exact .inl rfl
   ·exact .inl rfl
   ·exact .inr ⟨2,by omega,66,_,rfl,rfl⟩
   ·exact .inr ⟨3,by omega,43,_,rfl,rfl⟩
   ·exact absurd (show j+1+1+1+1+1+1+1<7 from hj) (by omega)) rfl hk2 hn2 hp2 k2
  by_cases hp:Cg (c,bk,(ev,lo,sp,po,dn,nl,br),hs,(ag,sq,tl,us,L),fs,nx,so) D (i:Int)
  ·have:=fr (CZ (c.c++[.bool bk,.int .u32 ev,.int .i64 lo,.bool sp,.int .i64 po,.int .i64 dn,.bool nl,.bool br,hv,.int .u32 ag,.int .u32 sq,.int .i64 tl,.int .i64 us,lv,fv,.int .i64 nx,.bool so]) v c D (a::T) i) (by show 7≤9;decide) (by show 9<1000000;decide) (fun o ho=>by simp [CZ] at ho;rcases ho with rfl|rfl|rfl|rfl|rfl|rfl|rfl|rfl|rfl <;> rfl) (key _ (fun _=>rfl) fun q=>absurd hp q)
   refine this.mono ?_
   rintro w s'' ⟨rfl,rfl⟩
   refine ⟨rfl,Eq.trans ?_ (hy hp).symm⟩
   have m1:((CZ (c.c++[.bool bk,.int .u32 ev,.int .i64 lo,.bool sp,.int .i64 po,.int .i64 dn,.bool nl,.bool br,hv,.int .u32 ag,.int .u32 sq,.int .i64 tl,.int .i64 us,lv,fv,.int .i64 nx,.bool so]) v c D (a::T) i).take 7).map (Ax (AB [0,1,2,3,4,5,6] 7))=(CZ (c.c++[.bool bk,.int .u32 ev,.int .i64 lo,.bool sp,.int .i64 po,.int .i64 dn,.bool nl,.bool br,hv,.int .u32 ag,.int .u32 sq,.int .i64 tl,.int .i64 us,lv,fv,.int .i64 nx,.bool so]) v c D (a::T) i).take 7:=by
    show [Ax (AB [0,1,2,3,4,5,6] 7) (.row 33 (c.c++[.bool bk,.int .u32 ev,.int .i64 lo,.bool sp,.int .i64 po,.int .i64 dn,.bool nl,.bool br,hv,.int .u32 ag,.int .u32 sq,.int .i64 tl,.int .i64 us,lv,fv,.int .i64 nx,.bool so])),Ax (AB [0,1,2,3,4,5,6] 7) (.row 34 [v]),.row 66 [.sl 7 0 (T.length+1+1) none],.row 43 [.sl 8 0 (T.length+1+1) none],Ax (AB [0,1,2,3,4,5,6] 7) (.row 24 c.c),.dead,.dead]=_;rw [Aa hrow,Aa hvr,Aa (cs:=c.c) rfl];rfl
   have m2:((CZ (c.c++[.bool bk,.int .u32 ev,.int .i64 lo,.bool sp,.int .i64 po,.int .i64 dn,.bool nl,.bool br,hv,.int .u32 ag,.int .u32 sq,.int .i64 tl,.int .i64 us,lv,fv,.int .i64 nx,.bool so]) v c D (a::T) i).drop 7).map (Ax (AB [0,1,2,3,4,5,6] 7))=(CZ (c.c++[.bool bk,.int .u32 ev,.int .i64 lo,.bool sp,.int .i64 po,.int .i64 dn,.bool nl,.bool br,hv,.int .u32 ag,.int .u32 sq,.int .i64 tl,.int .i64 us,lv,fv,.int .i64 nx,.bool so]) v c D (a::T) i).drop 7:=by
    show [Ax (AB [0,1,2,3,4,5,6] 7) (.row 3 (DC (a::T++[i]))),Ax (AB [0,1,2,3,4,5,6] 7) (.row 79 (CS c D (a::T++[i])))]=_;rw [Aa (Cc _),Aa (Cs _ _ _)];rfl
   exact congr (congrArg (fun a b=>Ae (BQ _ _ a) b) m1) m2
  ·have:=fr (B6 (c.c++[.bool bk,.int .u32 ev,.int .i64 lo,.bool sp,.int .i64 po,.int .i64 dn,.bool nl,.bool br,hv,.int .u32 ag,.int .u32 sq,.int .i64 tl,.int .i64 us,lv,fv,.int .i64 nx,.bool so]) v c D (a::T)) (by show 7≤7;decide) (by show 7<1000000;decide) (fun o ho=>by simp [B6] at ho;rcases ho with rfl|rfl|rfl|rfl|rfl|rfl|rfl <;> rfl) (key _ (fun q=>absurd q hp) fun _=>rfl)
   refine this.mono ?_
   rintro w s'' ⟨rfl,rfl⟩
   refine ⟨rfl,Eq.trans ?_ (hn hp).symm⟩
   have m1:((B6 (c.c++[.bool bk,.int .u32 ev,.int .i64 lo,.bool sp,.int .i64 po,.int .i64 dn,.bool nl,.bool br,hv,.int .u32 ag,.int .u32 sq,.int .i64 tl,.int .i64 us,lv,fv,.int .i64 nx,.bool so]) v c D (a::T)).take 7).map (Ax (AB [0,1,2,3,4,5,6] 7))=(B6 (c.c++[.bool bk,.int .u32 ev,.int .i64 lo,.bool sp,.int .i64 po,.int .i64 dn,.bool nl,.bool br,hv,.int .u32 ag,.int .u32 sq,.int .i64 tl,.int .i64 us,lv,fv,.int .i64 nx,.bool so]) v c D (a::T)).take 7:=by
    show [Ax (AB [0,1,2,3,4,5,6] 7) (.row 33 (c.c++[.bool bk,.int .u32 ev,.int .i64 lo,.bool sp,.int .i64 po,.int .i64 dn,.bool nl,.bool br,hv,.int .u32 ag,.int .u32 sq,.int .i64 tl,.int .i64 us,lv,fv,.int .i64 nx,.bool so])),Ax (AB [0,1,2,3,4,5,6] 7) (.row 34 [v]),.row 66 [.sl 5 0 (T.length+1) none],.row 43 [.sl 6 0 (T.length+1) none],Ax (AB [0,1,2,3,4,5,6] 7) (.row 24 c.c),Ax (AB [0,1,2,3,4,5,6] 7) (.row 3 (DC (a::T))),Ax (AB [0,1,2,3,4,5,6] 7) (.row 79 (CS c D (a::T)))]=_;rw [Aa hrow,Aa hvr,Aa (cs:=c.c) rfl,Aa (Cc _),Aa (Cs _ _ _)];rfl
   have m2:((B6 (c.c++[.bool bk,.int .u32 ev,.int .i64 lo,.bool sp,.int .i64 po,.int .i64 dn,.bool nl,.bool br,hv,.int .u32 ag,.int .u32 sq,.int .i64 tl,.int .i64 us,lv,fv,.int .i64 nx,.bool so]) v c D (a::T)).drop 7).map (Ax (AB [0,1,2,3,4,5,6] 7))=(B6 (c.c++[.bool bk,.int .u32 ev,.int .i64 lo,.bool sp,.int .i64 po,.int .i64 dn,.bool nl,.bool br,hv,.int .u32 ag,.int .u32 sq,.int .i64 tl,.int .i64 us,lv,fv,.int .i64 nx,.bool so]) v c D (a::T)).drop 7:=by
    rfl
   exact congr (congrArg (fun a b=>Ae (BQ _ _ a) b) m1) m2
end Go.AM
