/- Contracts of functions over the abstract machine. No conditions. -/
import Derived.Test.YtblggmblcjoalaaGreatStC
import Derived.Test.YtblggmblcjoalaaGreatStA
set_option linter.unusedVariables false
set_option linter.unusedSimpArgs false
set_option maxRecDepth 100000
namespace Go.AM
attribute [local irreducible] W
open X
variable {e:Env}{c:Cfg}
theorem str_y (h:Con e 77 stripesF.O) (hc:c.ok) (hM:c.may) (Q:AV->St->Prop) (s:St) (k:Q (.tup [.int .i64 (c.chunk*c.rows),.int .i64 0]) s):ESc e 77 [.agg c.c] s Q:=
 ESc.fam (e:=e) (k:=Q) (s:=s) stripesF h c hc (by unfold stripesF;dsimp only;rw [if_pos hM,if_pos hM]) k
theorem str_n (h:Con e 77 stripesF.O) (hc:c.ok) (hM:¬c.may) (Q:AV->St->Prop) (s:St) (k:Q (.tup [.int .i64 0,.int .i64 8]) s):ESc e 77 [.agg c.c] s Q:=
 ESc.fam (e:=e) (k:=Q) (s:=s) stripesF h c hc (by unfold stripesF;dsimp only;rw [if_neg hM,if_neg hM]) k
theorem cfg_y (h:Con e 133 cfgF.O) (hc:c.ok) (hM:c.may) (Q:AV->St->Prop) (s:St) (k:Q (.int .i64 0) s):ESc e 133 [.agg c.c] s Q:=
 ESc.fam (e:=e) (k:=Q) (s:=s) cfgF h c hc (by unfold cfgF;dsimp only;rw [if_pos hM]) k
theorem cfg_n (h:Con e 133 cfgF.O) (hc:c.ok) (hM:¬c.may) (Q:AV->St->Prop) (s:St) (k:Q (.int .i64 8) s):ESc e 133 [.agg c.c] s Q:=
 ESc.fam (e:=e) (k:=Q) (s:=s) cfgF h c hc (by unfold cfgF;dsimp only;rw [if_neg hM]) k
noncomputable def lossF:Fn (Cfg×Lo×Unit):=cF (.g cfgC (.g loC .nil)) (fun _=>True) fun x=>x.1.may∧loB x.1 x.2.1
theorem lossF_ok (hE:EM P e) (h40:Con e 77 stripesF.O):OvOk P 32 lossF.O:=by
 refine cF_ok hE g32 ?_
 rintro ⟨c,⟨ev,lo,sp,po,dn,nl,br⟩,_⟩ _ ⟨_,_,rfl,⟨rfl,hc⟩,_,_,rfl,ho,rfl⟩-K t f
 obtain ⟨rfl,h1,h2,h3,h4⟩:=lo_of ho
 dsimp only at t f hc
 by_cases hM:c.may
 ·have hs:=str_y h40 hc hM
  replace t:=fun q=>t ⟨hM,q⟩
  replace f:=fun (q:¬loB c (ev,lo,sp,po,dn,nl,br))=>f fun q'=>q q'.2
  have hmm:=may_mul hM
  unfold loB stripesN at t f
  unfold stripesN at hmm
  unfold i64B u32B at *
  dsimp only at t f
  change VW P e 0 _ (initT [.agg c.c,_] 0 .lf) St0 none [] _
  cases sp
  all_goals
   conv=>whnf
   repeat' (first|((first|refine hs _ _ ?_|refine nq12 ?_|refine nq13 ?_);conv=>whnf)|refine nq1 ?_ ?_|refine nq3 ?_ ?_|refine nq4 ?_ ?_|refine nq5 ?_ ?_|refine nq6 ?_ ?_|(intro _;first|omega|conv=>whnf))
   all_goals first
    | exact f (by simp;omega) _
    | exact t (by simp;omega) _
 ·have hs:=str_n h40 hc hM
  conv=>whnf
  repeat' (first|(refine hs _ _ ?_;conv=>whnf)|refine nq6 ?_ ?_|(intro _;first|omega|conv=>whnf))
  exact f (fun q=>hM q.1) _
def code184:AC:=match a275 with|.mk c _=>c
theorem call184 (h184:Inl e 275 code184 [.tmp 2]):CallP e bytC one 275 .nil (fun _ _=>True) (fun (_:Unit) b=>¬sized b):=by
 rintro c q xs b l rfl _ _ ⟨u,rfl,hu⟩ Q y n
 obtain ⟨us,hus,hl,-⟩:=hu.nth
 unfold sized at y n
 refine ECall.inl h184.O h184.G ?_;conv=>whnf
 repeat' (first|(refine nq21 hus ?_;conv=>whnf)|refine nq6 ?_ ?_|(intro _;first|omega|conv=>whnf))
 all_goals first
  | exact y (by omega) _
  | exact n (by omega) _
noncomputable def ix184:Fn (List (List Nat)×Unit×Unit):=ixF bytC 275 .nil (fun _ _=>True) fun _ b=>¬sized b
noncomputable def hdcF:Fn (Cfg×Hd×Unit):=cF (.g cfgC (.g hdC .nil)) (fun _=>True) fun x=>x.1.may∧hdB x.1 x.2.1
set_option maxHeartbeats 2000000 in
theorem hdcF_ok (hE:EM P e) (h40:Con e 77 stripesF.O) (h91:Inl e 178 cn91 [.tmp 4]) (h142:Con e 253 (relS (capR ix184.R))):OvOk P 217 hdcF.O:=by
 refine cF_ok hE g217 ?_
 rintro ⟨c,⟨st,bl,di,ph,de,sq⟩,_⟩ _ ⟨_,_,rfl,⟨rfl,hc⟩,_,_,rfl,hh,rfl⟩-K t f
 obtain ⟨bv,dv,rfl,h1,h2,h3,h4,h5⟩:=hd_of hh
 obtain ⟨bs,hs,hl,hn⟩:=h2.nth
 obtain ⟨ds,hs',hl',hn'⟩:=h3.nth
 have hrow:=hdC.hf hh
 dsimp only at t f hc
 have hidx:=fun (Q:AV->St->Prop) s k=>@ESc.cap _ ix184 e 253 s Q h142 bv 275 [] [] (bl,(),()) ⟨_,_,rfl,⟨_,rfl,h2⟩,_,_,rfl,rfl,rfl⟩ trivial .nil rfl k
 have hcn:=fun (Q:AV->St->Prop) s y n=>cnt91 (k:=Q) (s:=s) h91 (p:=fun b=>¬sized b) (xs:=bl) (fun Q k=>hidx Q s k) y n
 change VW P e 0 _ (initT [.agg c.c,_] 0 .lf) St0 none [] _
 by_cases hM:c.may
 ·have hst:=str_y h40 hc hM
  replace t:=fun q=>t ⟨hM,q⟩
  replace f:=fun (q:¬hdB c (st,bl,di,ph,de,sq))=>f fun q'=>q q'.2
  have hmm:=may_mul hM
  unfold hdB stripesN at t f
  unfold stripesN at hmm
  unfold Cfg.may at hM
  unfold i64B u32B at *
  dsimp only at t f
  conv=>whnf
  repeat' (first|(refine hcn _ _ (fun qs=>?_) (fun qs=>?_) <;> conv=>whnf)|((first|refine hst _ _ ?_|refine nq21 hs ?_|refine EPrim.lenZ rfl hs' ?_|refine nq8 ?_);conv=>whnf)|refine nq1 ?_ ?_|refine nq3 ?_ ?_|refine nq4 ?_ ?_|refine nq6 ?_ ?_|(intro _;first|omega|conv=>whnf))
  all_goals try exact f (fun q=>by omega) _
  ·exact f (fun q=>by obtain ⟨b,hb,hn⟩:=qs;obtain ⟨k,hk⟩:=List.getElem?_of_mem hb;exact hn (q.2.2.2.2.1 k (List.getElem?_eq_some_iff.1 hk).1 b hk).1) _
  have hsz:∀ k b,bl[k]?=some b->sized b:=fun k b hk=>Classical.byContradiction fun h=>qs ⟨b,List.mem_of_getElem? hk,h⟩
  have hM0:=c.members
  refine W.up hE di.length (fun i=>[(2,.ptr 0 0),(3,.ptr 1 0),(7,.bool ((di.take i).any id)),(58,dv),(59,.int .i64 (di.length:Int)),(60,.int .i64 (i:Int))]) (fun _=>[.row 24 c.c,.row 60 [.int .i64 st,bv,dv,.int .u8 (ph:Int),.bool de,.int .u32 sq]]) (fun i=>∀ k<i,di[k]?=some true->(bl[k]?.getD []).length≠0) (fun k h=>by omega) (Abs.tells (rs:=[0,1]) ⟨by decide,⟨r9,r9,r9,t9 h3.hf,r9,r9,trivial⟩,⟨r9,o9 hrow,trivial⟩⟩) ?_
  intro i hi hI
  have hdf:=h3.hf
  by_cases hlt:i<di.length
  ·obtain ⟨b,_,l,hb,⟨u,rfl,hu⟩,hd⟩:=hn i (by omega)
   obtain ⟨us,hus,hul,-⟩:=hu.nth
   obtain ⟨g,_,l',hg,rfl,hd'⟩:=hn' i hlt
   have hta:(di.take (i+1)).any id=((di.take i).any id || g):=by
    rw [List.take_add_one,hg,List.any_append];simp
   have hff:g=true->b.length=0->∀ s,K (.int .i64 8) s:=fun h1 h2=>f fun q=>(q.2.2.2.2.1 i (by omega) b hb).2 (by rw [hg,h1]) h2
   have htt:(g=true->b.length≠0)->∀ k<i+1,di[k]?=some true->(bl[k]?.getD []).length≠0:=fun h=>all_succ hI fun e=>by rw [hg] at e;rw [hb];exact h (Option.some.inj e)
   have hil:i<bl.length:=by omega
   clear f t
   generalize (di.take i).any id=D at *
   rw [hta]
   cases g <;> cases D
   all_goals
    conv=>whnf
    repeat' (first|((first|refine nq23 hs hil hd ?_|refine nq23 hs' hlt hd' ?_|refine nq22 ?_|refine nq21 hus ?_|refine nq7 ?_|refine ⟨rfl,?_⟩);conv=>whnf)|refine nq1 ?_ ?_|refine nq5 ?_ ?_|(intro _;first|omega|conv=>whnf))
    all_goals first
     | exact hff rfl (by omega) _
     | exact ⟨hlt,htt (fun h=>by first|exact absurd h Bool.false_ne_true|omega),Abs.tells (rs:=[0,1]) ⟨by decide,⟨r9,r9,r9,t9 h3.hf,r9,r9,trivial⟩,⟨r9,o9 hrow,trivial⟩⟩⟩
  ·obtain rfl:i=di.length:=by omega
   obtain ⟨b,_,l,hb,⟨u,rfl,hu⟩,hd⟩:=hn di.length (by omega)
   obtain ⟨us,hus,hul,-⟩:=hu.nth
   have hIb:∀ k<bl.length,∀ b,bl[k]?=some b->sized b∧(di[k]?=some true->b.length≠0):=fun k hk b hb=>⟨hsz k b hb,fun e=>by
    have:=hI k (List.getElem?_eq_some_iff.1 e).1 e
    rw [hb] at this;exact this⟩
   rw [List.take_length]
   have hany:(di.any id=true)=(true ∈ di):=by simp
   have hany':di.any id=false->¬(true ∈ di):=fun h q=>by rw [← hany,h] at q;cases q
   rw [← hany] at t f
   rw [hb] at t f
   dsimp only [Option.getD_some] at t f
   have hm1:c.members-1=(di.length:Int):=by omega
   have hil:di.length<bl.length:=by omega
   have hpl:(bl.length:Int)=c.members:=by omega
   have hs0:0≤st∧st<c.chunk*c.rows:=by omega
   have hph:ph≤4:=by omega
   have hdl:(di.length:Int)=c.members-1:=by omega
   replace t:=fun q=>t ⟨hs0,hpl,hdl,hph,hIb,q⟩
   replace f:=fun (q:¬((ph=0->b.length=0∧sq=0)∧(0<ph->b.length≠0∧di.any id=true)∧(ph=1->sq=0)∧(de=true->di.any id=true∧ph≤1)))=>f fun q'=>q q'.2.2.2.2.2
   generalize di.any id=D at *
   clear hI hIb hsz hany hany'
   cases D <;> cases de
   all_goals
    conv=>whnf
    repeat' (first|((first|refine EPrim.ixsM rfl hs rfl hm1 hil hd ?_|refine nq22 ?_|refine nq21 hus ?_|refine nq8 ?_|refine nq12 ?_|refine nq13 ?_|refine nq15 ?_);conv=>whnf)|refine nq1 ?_ ?_|refine nq2 ?_ ?_|refine nq3 ?_ ?_|refine nq5 ?_ ?_|refine nq6 ?_ ?_|(intro _;first|omega|conv=>whnf))
    all_goals first
     | exact t ⟨fun h=>by omega,fun h=>⟨by omega,by first|rfl|(exfalso;omega)⟩,fun h=>by omega,fun h=>by first|exact ⟨rfl,by omega⟩|cases h⟩ _
     | exact f (fun q=>by
      have q1:=q.1
      have q2:=q.2.1
      have q3:=q.2.2.1
      have q4:=q.2.2.2
      first
       | omega
       | exact Bool.false_ne_true (q2 (by omega)).2
       | exact Bool.false_ne_true (q4 rfl).1
       | (have:=(q4 rfl).2;omega)) _
     | fail
 ·have hst:=str_n h40 hc hM
  conv=>whnf
  repeat' (first|(refine hst _ _ ?_;conv=>whnf)|refine nq6 ?_ ?_|(intro _;first|omega|conv=>whnf))
  exact f (fun q=>hM q.1) _
def code183:AC:=match a240 with|.mk c _=>c
theorem idx_pl (hs:List Hd) (s:Int):idxI (fun h:Hd=>h.1=s) hs=plI hs s:=by
 by_cases h:∃ (i:Nat) (x:Hd),hs[i]?=some x∧x.1=s∧∀ j<i,∀ g:Hd,hs[j]?=some g->g.1≠s
 ·obtain ⟨i,x,h1,h2,h3⟩:=h
  rw [plI_some h1 h2 h3,idxI_at h1 h2 h3]
 ·have hn:∀ n:Nat,∀ j<n,∀ g:Hd,hs[j]?=some g->g.1≠s:=by
   intro n
   induction n with
   | zero=>intro j h;omega
   | succ n ih=>exact all_succ ih fun g hg he=>h ⟨n,g,hg,he,ih⟩
  rw [plI_none fun j _=>hn (j+1) j (by omega),idxI_no fun j _=>hn (j+1) j (by omega)]
theorem call183 (h183:Inl e 240 code183 [.tmp 3]):CallP e hdC AV.agg 240 (.p i64C .nil) (fun _ _=>True) (fun (c:Int×Unit) h=>h.1=c.1):=by
 rintro ⟨s,_⟩ q xs ⟨st,bl,di,ph,de,sq⟩ l ⟨_,_,rfl,⟨rfl,-⟩,rfl⟩ _ _ hx Q y n
 obtain ⟨bv,dv,rfl,-⟩:=hd_of hx
 dsimp only at y n
 refine ECall.inl h183.O h183.G ?_;conv=>whnf
 repeat' (first|(refine nq22 ?_;conv=>whnf)|refine nq5 ?_ ?_|(intro _;first|omega|conv=>whnf))
 all_goals first
  | exact y (by assumption) _
  | exact n (by assumption) _
noncomputable def ix183:Fn (List Hd×(Int×Unit)×Unit):=ixF hdC 240 (.p i64C .nil) (fun _ _=>True) fun c h=>h.1=c.1
noncomputable def plaF:Fn (List Hd×Int×Unit):=⟨.v hdC.sl (.v i64C .nil),fun _=>True,fun x=>.int .i64 (plI x.1 x.2.1)⟩
theorem plaF_ok (hE:EM P e) (h110:Con e 176 (relS (capR ix183.R))):OvOk P 162 plaF.O:=by
 refine Fn.mk_ok g162.b ?_
 rintro ⟨hs,s,_⟩ _ ⟨v,_,rfl,⟨_,e0,hL⟩,_,_,rfl,⟨e1,z1⟩,rfl⟩ -
 cases e0
 cases e1
 have hidx:=fun (Q:AV->St->Prop) st k r hr=>@ESc.cap _ ix183 e 176 st Q h110 v 240 [.ptr r 0] [.fp [.int .i64 s]] (hs,(s,()),()) ⟨_,_,rfl,⟨_,rfl,hL⟩,_,_,rfl,⟨_,_,rfl,⟨rfl,z1⟩,rfl⟩,rfl⟩ trivial (.cons ⟨r,3,_,rfl,rfl,hr,rfl⟩ .nil) rfl k
 have hout:∀ st,Frz st (ix183.out (hs,(s,()),())) (plaF.out (hs,s,())):=fun st=>by
  show Frz st (.int .i64 (idxI (fun h:Hd=>h.1=s) hs)) (.int .i64 (plI hs s))
  rw [idx_pl];exact .plain _ rfl
 refine ⟨rfl,C.of_G hE g162 ?_⟩
 change VW P e 0 _ (initT [v,.int .i64 s] 0 .lf) St0 none [] _
 conv=>whnf
 repeat' (first|(refine hidx _ _ ?_ _ rfl;conv=>whnf)|fail)
 exact hout _
noncomputable def shcF:Fn (Cfg×List Hd×Unit):=cF (.g cfgC (.v hdC.sl .nil)) (fun _=>True) fun x=>x.1.may∧shB x.1 x.2.1
theorem shcF_ok (hE:EM P e) (h103:Con e 133 cfgF.O) (h144:Con e 162 plaF.O) (h148:Con e 217 hdcF.O):OvOk P 161 shcF.O:=by
 refine cF_ok hE g161 ?_
 rintro ⟨c,hs,_⟩ _ ⟨_,_,rfl,⟨rfl,hc⟩,v,_,rfl,⟨_,e0,hL⟩,rfl⟩-K t f
 cases e0
 dsimp only at t f hc hL
 have hvf:=hL.hf
 obtain ⟨cs,hs',hl,hn⟩:=hL.nth
 have hpl:=fun (xs:List Hd) (u:AV) (hu:Ls hdC xs u) (st:Int) (h:i64B st) (Q:AV->St->Prop) s k=>@Fn.u _ e 162 s Q plaF [u,.int .i64 st] h144 (xs,st,()) ⟨_,_,rfl,⟨_,rfl,hu⟩,_,_,rfl,⟨rfl,i64_wf h⟩,rfl⟩ trivial k
 have hhd:=fun (x:Hd) (l:List AV) (hx:hdC.r x l) (Q:AV->St->Prop) s a b=>@cF.u _ _ _ _ e 217 s Q [.agg c.c,.agg l] h148 (c,x,()) ⟨_,_,rfl,⟨rfl,hc⟩,_,_,rfl,hx,rfl⟩ trivial a b
 replace hpl:∀ (xs:List Hd) (u:AV) (hu:Ls hdC xs u) (st:Int) (h:i64B st) (Q:AV->St->Prop) s,Q (.int .i64 (plI xs st)) s->ESc e 162 [u,.int .i64 st] s Q:=hpl
 change VW P e 0 _ (initT [.agg c.c,v] 0 .lf) St0 none [] _
 by_cases hM:c.may
 ·have hcf:=cfg_y h103 hc hM
  replace t:=fun q=>t ⟨hM,q⟩
  replace f:=fun (q:¬shB c hs)=>f fun q'=>q q'.2
  replace hhd:=fun x l hx (Q:AV->St->Prop) s (a:hdB c x->Q (.int .i64 0) s) (b:¬hdB c x->Q (.int .i64 8) s)=>hhd x l hx Q s (fun q=>a q.2) (fun q=>b fun h=>q ⟨hM,h⟩)
  unfold shB at t f
  conv=>whnf
  repeat' (first|((first|refine hcf _ _ ?_|refine EPrim.lenZ rfl hs' ?_);conv=>whnf)|refine nq3 ?_ ?_|refine nq6 ?_ ?_|(intro _;first|omega|conv=>whnf))
  ·exact f (fun q=>by omega) _
  have hheads:(hs.length:Int)≤c.heads:=by assumption
  refine W.up hE hs.length (fun i=>[(1,v),(2,.ptr 0 0),(19,v),(20,.int .i64 (hs.length:Int)),(21,.int .i64 (i:Int))]) (fun _=>[.row 24 c.c]) (fun i=>∀ k<i,∀ h,hs[k]?=some h->hdB c h∧∀ j<k,∀ g,hs[j]?=some g->g.1≠h.1) (fun k h=>by omega) (Abs.tells (rs:=[0]) .a) ?_
  intro i hi hI
  by_cases hlt:i<hs.length
  ·obtain ⟨x,l,r,hx,hxr,hd⟩:=hn i hlt
   have hhd:=hhd x l hxr
   have hff:¬(hdB c x∧∀ j<i,∀ g,hs[j]?=some g->g.1≠x.1)->∀ s,K (.int .i64 8) s:=fun h=>f fun q=>h (q.1 i hlt x hx)
   have htt:(hdB c x∧∀ j<i,∀ g,hs[j]?=some g->g.1≠x.1)->∀ k<i+1,∀ h,hs[k]?=some h->hdB c h∧∀ j<k,∀ g,hs[j]?=some g->g.1≠h.1:=fun h=>all_succ hI fun y e=>by rw [hx] at e;cases e;exact h
   have hpos:∀ st,(∀ j<i,∀ g,hs[j]?=some g->g.1≠st)->plI (hs.take i) st=-1:=fun st h=>plI_none fun j hj g hg=>by
    rw [List.length_take] at hj
    rw [List.getElem?_take,if_pos (by omega)] at hg
    exact h j (by omega) g hg
   have hpos2:∀ st,plI (hs.take i) st<0->∀ j<i,∀ g,hs[j]?=some g->g.1≠st:=fun st h j hj g hg e=>by
    rw [← idx_pl] at h
    have:=idxI_iff (p:=fun h:Hd=>h.1=st) (l:=hs.take i).2 ⟨g,List.mem_of_getElem? (i:=j) (by rw [List.getElem?_take,if_pos hj];exact hg),e⟩
    omega
   clear t f hI hn
   obtain ⟨st,bl,di,ph,de,sq⟩:=x
   obtain ⟨bv,dv,rfl,hst,-⟩:=hd_of hxr
   dsimp only at hff htt
   conv=>whnf
   repeat' (first|(refine hhd _ _ (fun q1=>?_) (fun q1=>?_) <;> conv=>whnf)|((first|refine nq23 hs' hlt hd ?_|refine ETake.eq (cs:=[.int .i64 st,bv,dv,.int .u8 (ph:Int),.bool de,.int .u32 sq]) rfl ?_|refine EPrim.slcP rfl hL rfl rfl (Nat.le_of_lt hlt) (fun u hu=>?_)|refine hpl (hs.take i) _ hu _ hst _ _ ?_|refine nq7 ?_|refine ⟨rfl,?_⟩);conv=>whnf)|refine nq1 ?_ ?_|refine nq4 ?_ ?_|refine nq6 ?_ ?_|(intro _;first|omega|conv=>whnf))
   ·exact hff (fun q=>by have:=hpos _ q.2;omega) _
   ·refine ⟨hlt,htt ⟨q1,hpos2 _ (by omega)⟩,Abs.tells (rs:=[0]) .a⟩
   ·exact hff (fun q=>q1 q.1) _
  ·conv=>whnf
   repeat' (first|refine nq1 ?_ ?_|(intro _;first|omega|conv=>whnf))
   exact t ⟨fun k hk=>hI k (by omega),hheads⟩ _
 ·have hcf:=cfg_n h103 hc hM
  conv=>whnf
  repeat' (first|(refine hcf _ _ ?_;conv=>whnf)|refine nq6 ?_ ?_|(intro _;first|omega|conv=>whnf))
  exact f (fun q=>hM q.1) _
open Classical in
def cd98:AC:=match a183 with|.mk c _=>c
def cd99:AC:=match a149 with|.mk c _=>c
def cd89:AC:=match a73 with|.mk c _=>c
theorem dch_use (h44:Con e 96 dskF.O) {x:Dk}{l:List AV}(hx:dkC.r x l) (hs:smD x) (Q:AV->St->Prop) (s:St) (a:dkP x->Q (.int .i64 0) s) (b:¬dkP x->Q (.int .i64 8) s):ESc e 96 [.agg l] s Q:=by
 obtain ⟨y,hy,rfl⟩:=dk_DK hx
 refine ESc.fam (e:=e) (k:=Q) (s:=s) dskF h44 y (smD_ok hy hs) rfl ?_
 have hi:=dk_iff hy
 show Q (.int .i64 (if dskB y=true then 0 else 8)) s
 by_cases h:dskB y=true
 ·rw [if_pos h];exact a (by rw [← hi];exact h)
 ·rw [if_neg h];exact b (by rw [← hi];exact h)
def memF:Fam Cfg:=⟨Cfg.ok,fun x=>[x.v],fun x=>.tup [.int .i64 (if x.may then x.chunk*x.rows+1 else 0),.int .i64 (if x.may then 0 else 8)],fun x y _ _ h=>by rw [Cfg.injv (List.cons.inj h).1]⟩
theorem memF_ok (hE:EM P e) (h83:Con e 102 toldF.O):OvOk P 40 memF.O:=by
 refine Fam.ok_of g40.b ?_
 intro x hx
 refine ⟨rfl,rfl,C.of_G hE g40 ?_⟩
 by_cases hM:x.may
 ·rw [show memF.out x=.tup [.int .i64 (x.chunk*x.rows+1),.int .i64 0] by simp [memF,hM]]
  have hmm:=(may_mul hM).1
  unfold stripesN at hmm
  obtain ⟨id,members,chunk,rows,log,heads⟩:=x
  dsimp only at hmm ⊢
  show VW P e 0 _ (initT [AV.agg [.int .u32 id,.int .i64 members,.int .i64 chunk,.int .i64 rows,.int .i64 log,.int .i64 heads]] 0 .lf) St0 none [] _
  conv=>whnf
  repeat' (first|((first|refine EPrim.mulS rfl rfl (by omega) ?_|refine nq7 ?_);conv=>whnf)|fail)
  refine ESc.fam toldF h83 (⟨id,members,chunk,rows,log,heads⟩,_) hx (u:=.tup [_,.int .i64 0]) (by simp only [toldF,if_pos hM];rfl) ?_;conv=>whnf
  exact .plain _ rfl
 ·rw [show memF.out x=.tup [.int .i64 0,.int .i64 8] by simp [memF,hM]]
  obtain ⟨id,members,chunk,rows,log,heads⟩:=x
  show VW P e 0 _ (initT [AV.agg [.int .u32 id,.int .i64 members,.int .i64 chunk,.int .i64 rows,.int .i64 log,.int .i64 heads]] 0 .lf) St0 none [] _
  conv=>whnf
  repeat' (first|((first|refine EPrim.mul rfl rfl ?_|refine EPrim.add (q:=.i64) rfl rfl ?_);conv=>whnf)|fail)
  refine ESc.fam toldF h83 (⟨id,members,chunk,rows,log,heads⟩,_) hx (u:=.tup [.int .i64 0,.int .i64 8]) (by simp only [toldF,if_neg hM]) ?_;conv=>whnf
  exact .plain _ rfl
noncomputable def ftcF:Fn (Cfg×List Dk×Unit):=cF (.g cfgC (.v dkC.sl .nil)) (fun x=>∀ d ∈ x.2.1,smD d) fun x=>x.1.may∧m20P x.1 x.2.1
theorem ftcF_ok (hE:EM P e) (h44:Con e 96 dskF.O) (h59:Con e 40 memF.O) (h60:Con e 41 journalF.O):OvOk P 35 ftcF.O:=by
 refine cF_ok hE g35 ?_
 rintro ⟨c,D,_⟩ _ ⟨_,_,rfl,⟨rfl,hc⟩,v,_,rfl,⟨_,e0,hL⟩,rfl⟩ hG K t f
 cases e0
 dsimp only at t f hc hL hG
 have hvf:=hL.hf
 obtain ⟨cs,hs',hl,hn⟩:=hL.nth
 change VW P e 0 _ (initT [.agg c.c,v] 0 .lf) St0 none [] _
 by_cases hM:c.may
 ·have hme:∀ (Q:AV->St->Prop) s,Q (.tup [.int .i64 (c.chunk*c.rows+1),.int .i64 0]) s->ESc e 40 [.agg c.c] s Q:=fun Q s k=>ESc.fam (e:=e) (k:=Q) (s:=s) memF h59 c hc (by unfold memF;dsimp only;rw [if_pos hM,if_pos hM]) k
  have hjo:∀ (Q:AV->St->Prop) s,Q (.tup [.int .i64 (c.log+1),.int .i64 0]) s->ESc e 41 [.agg c.c] s Q:=fun Q s k=>ESc.fam (e:=e) (k:=Q) (s:=s) journalF h60 c hc (by unfold journalF;dsimp only;rw [if_pos hM,if_pos hM]) k
  replace t:=fun q=>t ⟨hM,q⟩
  replace f:=fun (q:¬m20P c D)=>f fun q'=>q q'.2
  have hmm:=(may_mul hM).1
  have hlog:=Cfg.may_log hM
  unfold m20P at t f
  unfold Cfg.may at hM
  unfold stripesN at *
  conv=>whnf
  repeat' (first|((first|refine hme _ _ ?_|refine EPrim.lenZ rfl hs' ?_|refine nq7 ?_);conv=>whnf)|refine nq6 ?_ ?_|(intro _;first|omega|conv=>whnf))
  ·exact f (fun q=>by omega) _
  have hlen:(D.length:Int)=c.members+1:=by assumption
  refine W.up hE D.length (fun i=>[(2,.ptr 0 0),(5,.int .i64 (c.chunk*c.rows+1)),(25,v),(26,.int .i64 (D.length:Int)),(27,.int .i64 (i:Int))]) (fun _=>[.row 24 c.c]) (fun i=>∀ k<i,∀ d,D[k]?=some d->(d.1.length:Int)=(if (k:Int)=c.members then c.log+1 else 1+c.chunk*c.rows)∧dkP d) (fun k h=>by omega) (Abs.tells (rs:=[0]) .a) ?_
  intro i hi hI
  by_cases hlt:i<D.length
  ·obtain ⟨x,l,r,hx,hxr,hd⟩:=hn i hlt
   have hdk:=fun (Q:AV->St->Prop) s a b=>dch_use (e:=e) h44 hxr (hG x (List.mem_of_getElem? hx)) Q s a b
   have hff:¬((x.1.length:Int)=(if (i:Int)=c.members then c.log+1 else 1+c.chunk*c.rows)∧dkP x)->∀ s,K (.int .i64 8) s:=fun h=>f fun q=>h (q.2 i hlt x hx)
   have htt:((x.1.length:Int)=(if (i:Int)=c.members then c.log+1 else 1+c.chunk*c.rows)∧dkP x)->∀ k<i+1,∀ d,D[k]?=some d->(d.1.length:Int)=(if (k:Int)=c.members then c.log+1 else 1+c.chunk*c.rows)∧dkP d:=fun h=>all_succ hI fun y e=>by rw [hx] at e;cases e;exact h
   clear t f hI hn
   obtain ⟨bs,ws,dd⟩:=x
   obtain ⟨bv,wv,rfl,h1,-⟩:=dk_of hxr
   obtain ⟨xs,k1,l1,-⟩:=h1.nth
   dsimp only at hff htt
   by_cases him:(i:Int)=c.members
   all_goals
    first|rw [if_pos him] at hff htt|rw [if_neg him] at hff htt
    conv=>whnf
    repeat' (first|(refine hdk _ _ (fun q1=>?_) (fun q1=>?_) <;> conv=>whnf)|((first|refine nq23 hs' hlt hd ?_|refine ETake.eq (cs:=[bv,wv,.bool dd]) rfl ?_|refine nq22 ?_|refine hjo _ _ ?_|refine nq21 k1 ?_|refine nq7 ?_|refine ⟨rfl,?_⟩);conv=>whnf)|refine nq1 ?_ ?_|refine nq5 ?_ ?_|refine nq6 ?_ ?_|(intro _;first|omega|conv=>whnf))
    all_goals first
     | exact hff (fun q=>by omega) _
     | exact hff (fun q=>q1 q.2) _
     | exact ⟨hlt,htt ⟨by omega,q1⟩,Abs.tells (rs:=[0]) .a⟩
  ·conv=>whnf
   repeat' (first|refine nq1 ?_ ?_|(intro _;first|omega|conv=>whnf))
   exact t ⟨hlen,fun k hk=>hI k (by omega)⟩ _
 ·have hme:∀ (Q:AV->St->Prop) s,Q (.tup [.int .i64 0,.int .i64 8]) s->ESc e 40 [.agg c.c] s Q:=fun Q s k=>ESc.fam (e:=e) (k:=Q) (s:=s) memF h59 c hc (by unfold memF;dsimp only;rw [if_neg hM,if_neg hM]) k
  conv=>whnf
  repeat' (first|(refine hme _ _ ?_;conv=>whnf)|refine nq6 ?_ ?_|(intro _;first|omega|conv=>whnf))
  exact f (fun q=>hM q.1) _
noncomputable def blsF:Fn (Cfg×Unit):=⟨.g cfgC .nil,fun x=>x.1.may,fun x=>.tup [.int .i64 (blocksN x.1),.int .i64 0]⟩
theorem blsF_ok (hE:EM P e) (h88:Con e 102 toldF.O):OvOk P 72 blsF.O:=by
 refine Fn.mk_ok g72.b ?_
 rintro ⟨c,_⟩ _ ⟨_,_,rfl,⟨rfl,hc⟩,rfl⟩ hM
 dsimp only at hc
 have hM:c.may:=hM
 refine ⟨rfl,C.of_G hE g72 ?_⟩
 have hmm:=may_mul hM
 have hto:∀ n (Q:AV->St->Prop) s,Q (.tup [.int .i64 n,.int .i64 0]) s->ESc e 102 [.agg c.c,.int .i64 n] s Q:=fun n Q s k=>ESc.fam (e:=e) (k:=Q) (s:=s) toldF h88 (c,n) hc (by unfold toldF;dsimp only;rw [if_pos hM,if_pos hM]) k
 have fin:∀ st,Frz st (.tup [.int .i64 (blocksN c),.int .i64 0]) (blsF.out (c,())):=fun st=>.plain _ rfl
 generalize blsF.out _=O at fin ⊢
 unfold blocksN stripesN at *
 unfold Cfg.may at hM
 change VW P e 0 _ (initT [.agg c.c] 0 .lf) St0 none [] _
 conv=>whnf
 repeat' (first|((first|refine EPrim.mulS rfl rfl (by omega) ?_|refine hto _ _ _ ?_|refine nq8 ?_);conv=>whnf)|fail)
 exact fin _
def cd212:AC:=match a321 with|.mk c _=>c
noncomputable def splF:Fn (Cfg×Ak×Unit):=⟨.g cfgC (.g akC .nil),fun x=>x.1.may,fun x=>.int .i64 (akE x.1 x.2.1)⟩
set_option maxHeartbeats 2000000 in
theorem splF_ok (hE:EM P e) (h41:Con e 72 blsF.O) (h212:Inl e 321 cd212 [.cells 2 3,.tmp 3]):OvOk P 318 splF.O:=by
 refine Fn.mk_ok g318.b ?_
 rintro ⟨c,⟨k,a,m,d⟩,_⟩ _ ⟨_,_,rfl,⟨rfl,hc⟩,_,_,rfl,hg,rfl⟩ hM
 obtain ⟨v,rfl,o1,o2,o3,hd⟩:=ak_of hg
 obtain ⟨cs,hs',hl,-⟩:=hd.nth
 refine ⟨rfl,C.of_G hE g318 ?_⟩
 have f0:akB c (k,a,m,d)->∀ s,Frz s (.int .i64 0) (splF.out (c,(k,a,m,d),())):=fun h s=>by
  show Frz s _ (.int .i64 (akE c (k,a,m,d)));unfold akE;rw [if_pos h];exact .plain _ rfl
 have f3:¬akB c (k,a,m,d)->∀ d',akB c (k,a,m,d')->∀ s,Frz s (.int .i64 3) (splF.out (c,(k,a,m,d),())):=fun h d' h' s=>by
  show Frz s _ (.int .i64 (akE c (k,a,m,d)));unfold akE;rw [if_neg h,if_pos ⟨d',h'⟩];exact .plain _ rfl
 have f2:(∀ d',¬akB c (k,a,m,d'))->∀ s,Frz s (.int .i64 2) (splF.out (c,(k,a,m,d),())):=fun h s=>by
  show Frz s _ (.int .i64 (akE c (k,a,m,d)));unfold akE;rw [if_neg (h d),if_neg (fun q=>q.elim h)];exact .plain _ rfl
 generalize splF.out _=O at f0 f2 f3 ⊢
 have hM:c.may:=hM
 dsimp only at hc
 have hmm:=may_mul hM
 have hbl:∀ (Q:AV->St->Prop) s,Q (.tup [.int .i64 (blocksN c),.int .i64 0]) s->ESc e 72 [.agg c.c] s Q:=fun Q s k=>Fn.u (F:=blsF) h41 (c,()) ⟨_,_,rfl,⟨rfl,hc⟩,rfl⟩ hM k
 have f3:¬akB c (k,a,m,d)->(1≤k∧k≤6∧(k=4∨k=6->a=0∧m=0)∧(¬(k=4∨k=6)->1≤m∧m≤8∧0≤a∧a≤blocksN c-m))->∀ s,Frz s (.int .i64 3) O:=fun h q=>f3 h (List.replicate (if k=2∨k=3 then (m*128).toNat else 0) 0) ⟨q.1,q.2.1,q.2.2.1,q.2.2.2,fun e=>by rw [if_pos e,List.length_replicate];have:=q.2.2.2 (by omega);omega,fun e=>by rw [if_neg e];rfl⟩
 have f2:¬(1≤k∧k≤6∧(k=4∨k=6->a=0∧m=0)∧(¬(k=4∨k=6)->1≤m∧m≤8∧0≤a∧a≤blocksN c-m))->∀ s,Frz s (.int .i64 2) O:=fun h=>f2 fun d' q=>h ⟨q.1,q.2.1,q.2.2.1,q.2.2.2.1⟩
 unfold akB at f0 f3
 generalize blocksN c=B at *
 unfold i64B at *
 dsimp only at f0 f2 f3
 change VW P e 0 _ (initT [.agg c.c,_] 0 .lf) St0 none [] _
 conv=>whnf
 repeat' (first|((first|refine hbl _ _ ?_|refine EPrim.lenZ rfl hs' ?_|refine ESc.inl h212 ?_|refine EPrim.min2 rfl ?_|refine EPrim.mulS rfl rfl (by omega) ?_|refine nq8 ?_|refine nq12 ?_|refine nq13 ?_);conv=>whnf)|refine nq1 ?_ ?_|refine nq3 ?_ ?_|refine nq5 ?_ ?_|refine nq6 ?_ ?_|(intro _;first|omega|conv=>whnf))
 all_goals first
  | exact f2 (by omega) _
  | exact f3 (by omega) (by omega) _
  | exact f0 (by omega) _
def lstI (a:Int) (n:Nat):List AV:=(List.range n).map fun (i:Nat)=>AV.int .i64 (a+(i:Int))
def lstV (a:Int) (n:Nat):AV:=match n with
 | 0=>.nils
 | n+1=>.fz (n+1) none (lstI a (n+1))
theorem lstI_hf (a:Int) (n:Nat):hfs (lstI a n)=true:=hfs_rng fun k _=>rfl
theorem lstI_succ (a:Int) (n:Nat):lstI a (n+1)=lstI a n++[.int .i64 (a+(n:Int))]:=rng_succ
theorem lstI_len (a:Int) (n:Nat):(lstI a n).length=n:=by unfold lstI;simp
variable {a:Int}
theorem lstV_Ls {n:Nat}(h:∀ i<n,i64B (a+(i:Int))) (hn:n≤1000):Ls i64C ((List.range n).map fun (i:Nat)=>a+(i:Int)) (lstV a n):=by
 rcases n with _|n
 ·exact Ls.no (.inl rfl)
 ·refine ⟨(List.range (n+1)).map fun (i:Nat)=>[AV.int .i64 (a+(i:Int))],?_,.inr (.inr ⟨none,?_,?_⟩),by simp;omega⟩
  ·refine All2.of_get (by simp) fun i x l' h1 h2=>?_
   rw [List.getElem?_map] at h1 h2
   by_cases hi:i<n+1
   ·rw [List.getElem?_range hi] at h1 h2
    cases h1
    cases h2
    exact ⟨rfl,i64_wf (h i hi)⟩
   ·rw [List.getElem?_eq_none (by simp;omega)] at h1
    cases h1
  ·rw [flat_one (fun (i:Nat)=>AV.int .i64 (a+(i:Int)))];simp;rfl
  ·rw [flat_one (fun (i:Nat)=>AV.int .i64 (a+(i:Int))),List.length_map,List.length_range,List.length_map,List.length_range];exact (Nat.mul_one _).symm
noncomputable def sblF:Fn (Cfg×Ak×Unit):=⟨.g cfgC (.g akC .nil),fun x=>x.1.may,fun x=>if akE x.1 x.2.1=0 then .tup [lstV x.2.1.2.1 x.2.1.2.2.1.toNat,.int .i64 0] else .tup [.nils,.int .i64 (akE x.1 x.2.1)]⟩
theorem akE_iff {x:Ak}:akE c x=0↔akB c x:=⟨fun h=>Classical.byContradiction fun n=>akE_n n h,akE_0⟩
variable {k:Nat}
theorem ak_small {m:Int}{d:List Nat}(hM:c.may) (h:akB c (k,a,m,d)):0≤m∧m≤8∧0≤a∧a≤1000:=by
 have hmm:=(may_mul hM).2
 obtain ⟨h1,h2,h3,h4,-⟩:=h
 omega
def slO (n:Nat) (r:Nat):AV:=match n with
 | 0=>.nils
 | n+1=>.sl r 0 (n+1) none
theorem sblF_ok (hE:EM P e) (h209:Con e 318 splF.O):OvOk P 294 sblF.O:=by
 refine Fn.mk_ok g294.b ?_
 rintro ⟨c,⟨k,a,m,d⟩,_⟩ _ ⟨_,_,rfl,⟨rfl,hc⟩,_,_,rfl,hg,rfl⟩ hM
 have hM:c.may:=hM
 dsimp only at hc
 have hg0:=hg
 have hsp:∀ (Q:AV->St->Prop) s l,akC.r (k,a,m,d) l->Q (.int .i64 (akE c (k,a,m,d))) s->ESc e 318 [.agg c.c,.agg l] s Q:=fun Q s l hl q=>Fn.u (F:=splF) h209 (c,(k,a,m,d),()) ⟨_,_,rfl,⟨rfl,hc⟩,_,_,rfl,hl,rfl⟩ hM q
 obtain ⟨v,rfl,o1,o2,o3,hd⟩:=ak_of hg
 have hsp:=fun Q s=>hsp Q s _ hg
 have hrow:=akC.hf hg
 have hvf:=hd.hf
 have hh:AM.hf (sblF.out (c,(k,a,m,d),()))=true:=by
  unfold sblF;dsimp only;split
  ·unfold lstV;split <;> rfl
  ·rfl
 refine ⟨hh,C.of_G hE g294 ?_⟩
 have hO:∀ O,sblF.out (c,(k,a,m,d),())=O->(if akE c (k,a,m,d)=0 then AV.tup [lstV a m.toNat,.int .i64 0] else .tup [.nils,.int .i64 (akE c (k,a,m,d))])=O:=fun O h=>h
 generalize hO':sblF.out (c,(k,a,m,d),())=O at hh ⊢
 replace hO:=hO O hO'
 change VW P e 0 _ (initT [.agg c.c,.agg [.int .u8 (k:Int),.int .i64 a,.int .i64 m,v]] 0 .lf) St0 none [] _
 by_cases h0:akB c (k,a,m,d)
 ·have hm:=ak_small hM h0
  rw [akE_iff.2 h0] at hsp hO
  rw [if_pos rfl] at hO
  obtain ⟨n,rfl⟩:∃ n:Nat,m=n:=⟨m.toNat,by omega⟩
  rw [Int.toNat_natCast] at hO
  have fin0:n=0->∀ st,Frz st (.tup [.nils,.int .i64 0]) O:=fun h st=>by
   subst h;rw [← hO];exact .plain _ rfl
  have fin1:∀ i r st,n=i+1->st.get r=some (.row 3 (lstI a (i+1)))->Frz st (.tup [.sl r 0 (i+1) none,.int .i64 0]) O:=fun i r st h hg2=>by
   subst h;rw [← hO]
   exact .tup _ _ (.cons (.sl r 0 (i+1) _ _ 3 _ _ _ hg2 (fun j x hx=>by rw [Nat.zero_add];exact hx) (frz_hfs (lstI_hf _ _)) (.inl rfl)) (.cons (.plain _ rfl) .nil))
  conv=>whnf
  repeat' (first|(refine hsp _ _ ?_;conv=>whnf)|refine nq6 ?_ ?_|(intro _;first|omega|conv=>whnf))
  refine W.up hE n (fun i=>[(3,.ptr 1 0),(4,slO i 2),(15,.int .i64 (n:Int)),(16,.int .i64 (i:Int))]) (fun i=>match i with|0=>[.row 24 c.c,.row 259 [.int .u8 (k:Int),.int .i64 a,.int .i64 (n:Int),v]]|i+1=>[.row 24 c.c,.row 259 [.int .u8 (k:Int),.int .i64 a,.int .i64 (n:Int),v],.row 3 (lstI a (i+1))]) (fun _=>True) trivial (Abs.tells (rs:=[0,1]) .a) ?_
  intro i hi _
  unfold i64B at o2 o3
  by_cases hlt:i<n
  ·have hli:=lstI_hf a
   have hsu:=lstI_succ a i
   rcases i with _|i
   ·conv=>whnf
    repeat' (first|((first|refine nq25 (m:=1) ?_|refine nq7 ?_|refine ⟨rfl,?_⟩);conv=>whnf)|refine nq1 ?_ ?_|(intro _;first|omega|conv=>whnf))
    exact ⟨hlt,trivial,Abs.tells (rs:=[0,1,3]) ⟨by decide,⟨r9,r9,r9,r9,trivial⟩,⟨r9,o9 hrow,⟨rowH rfl,rfl⟩,trivial⟩⟩⟩
   ·have hli2:=hli (i+1+1)
    rw [hsu] at hli2
    dsimp only
    rw [hsu]
    conv=>whnf
    repeat' (first|((first|refine EPrim.appU (m:=1) (n:=i+1) (old:=lstI a (i+1)) rfl rfl rfl rfl (by rw [lstI_len];exact (Nat.mul_one _).symm) rfl (by decide) (by omega) ?_|refine nq7 ?_|refine ⟨rfl,?_⟩);conv=>whnf)|refine nq1 ?_ ?_|(intro _;first|omega|conv=>whnf))
    exact ⟨hlt,trivial,Abs.tells (rs:=[0,1,4]) .a⟩
  ·obtain rfl:i=n:=by omega
   rcases i with _|i
   ·conv=>whnf
    repeat' (first|refine nq1 ?_ ?_|(intro _;first|omega|conv=>whnf))
    exact fin0 rfl _
   ·conv=>whnf
    repeat' (first|refine nq1 ?_ ?_|(intro _;first|omega|conv=>whnf))
    exact fin1 i _ _ rfl rfl
 ·have hne:=mt akE_iff.1 h0
  rw [if_neg hne] at hO
  generalize akE c (k,a,m,d)=E at *
  have fin:∀ st,Frz st (.tup [.nils,.int .i64 E]) O:=fun st=>by rw [← hO];exact .plain _ rfl
  conv=>whnf
  repeat' (first|(refine hsp _ _ ?_;conv=>whnf)|refine nq6 ?_ ?_|(intro _;first|omega|conv=>whnf))
  all_goals first
   | exact absurd (by assumption) hne
   | exact fin _
theorem W.upE {β:Type}(hE:EM P e) {rd:Option Nat}{ac:AC}{t:AT}{s:St}{Q:EQ}(n:Nat) (tl:Nat->β->List (Nat×AV)) (os:Nat->β->List AObj) (I:Nat->β->Prop) (b0:β) (h0:I 0 b0) (ha:Tells P k t s [] (ofL (tl 0 b0)) (allocs St0 (os 0 b0)) [])
 (hr:∀ i b,i≤n->I i b->VW P e k ac (ofL (tl i b)) (allocs St0 (os i b)) rd [] (Then (fun t s ds=>ds=[]∧i<n∧∃ b',I (i+1) b'∧Tells P k t s [] (ofL (tl (i+1) b')) (allocs St0 (os (i+1) b')) []) Q)):W P k rd (.loop ac) t s [] Q:=by
 refine W.loopT (α:=Nat×β) (fun x=>tl x.1 x.2) (fun x=>os x.1 x.2) (fun x=>n-x.1) (fun x=>x.1≤n∧I x.1 x.2) (0,b0) ⟨Nat.zero_le _,h0⟩ ha ?_
 rintro ⟨i,b⟩ ⟨hi,hI⟩
 refine (vs_sound hE (hr i b hi hI)).mono ?_
 intro x t s ds hq
 cases x with
 | normal=>
  obtain ⟨rfl,h1,b',h2,h3⟩:=hq
  exact ⟨rfl,(i+1,b'),⟨h1,h2⟩,by dsimp only at hi ⊢;omega,h3⟩
 | exit id=>exact hq
 | ret=>exact hq
def ksI (a:Int):Nat->List Int
 | 0=>[]
 | i+1=>dAdd (a+(i:Int)) (ksI a i)
theorem ksI_mem {n:Int}:∀ {i:Nat},n ∈ ksI a i↔a≤n∧n<a+(i:Int)
 | 0=>by simp [ksI];try omega
 | i+1=>by
  unfold ksI dAdd
  split
  ·rename_i h
   rw [ksI_mem] at h ⊢
   omega
  ·rw [List.mem_append,ksI_mem,List.mem_singleton];omega
def wrB (k:Nat):Bool:=decide (k=2∨k=3∨k=5)
def ofV (k:Nat):AV:=.tup [.agg [.int .i64 (if k=4∨k=6∨k=0∨6<k then 0 else 8),.bool (decide (k=2∨k=3)),.bool (wrB k)],.bool (decide (1≤k∧k≤6))]
noncomputable def ofF:Fn (Nat×Unit):=⟨.v Ce.u8 .nil,fun _=>True,fun x=>ofV x.1⟩
theorem ofF_ok (hE:EM P e):OvOk P 321 ofF.O:=by
 refine Fn.mk_ok g321.b ?_
 rintro ⟨k,_⟩ _ ⟨_,_,rfl,⟨e1,z1⟩,rfl⟩ -
 cases e1
 dsimp only at z1
 refine ⟨rfl,C.of_G hE g321 ?_⟩
 have fin:∀ st a b c d,(if k=4∨k=6∨k=0∨6<k then (0:Int) else 8)=a->decide (k=2∨k=3)=b->wrB k=c->decide (1≤k∧k≤6)=d->Frz st (.tup [.agg [.int .i64 a,.bool b,.bool c],.bool d]) (ofF.out (k,())):=by
  rintro st a b c d rfl rfl rfl rfl;exact .plain _ rfl
 generalize ofF.out _=O at fin ⊢
 unfold wrB at fin
 change VW P e 0 _ (initT [.int .u8 (k:Int)] 0 .lf) St0 none [] _
 conv=>whnf
 repeat' (first|refine nq5 ?_ ?_|(intro _;first|omega|conv=>whnf))
 all_goals first
  | exact fin _ _ _ _ _ (by first|exact if_pos (by omega)|exact if_neg (by omega)) (by first|exact decide_eq_true (by omega)|exact decide_eq_false (by omega)) (by first|exact decide_eq_true (by omega)|exact decide_eq_false (by omega)) (by first|exact decide_eq_true (by omega)|exact decide_eq_false (by omega))
noncomputable def tchF:Fn (Cfg×Ak×Ak×Unit):=⟨.g cfgC (.g akC (.g akC .nil)),fun x=>x.1.may∧akB x.1 x.2.1∧akB x.1 x.2.2.1,fun x=>.tup [pB (meetP x.2.1 x.2.2.1),.int .i64 0]⟩
set_option maxHeartbeats 2000000 in
theorem tchF_ok (hE:EM P e) (h189:Con e 294 sblF.O) (h212:Con e 321 ofF.O):OvOk P 298 tchF.O:=by
 refine Fn.mk_ok g298.b ?_
 rintro ⟨c,⟨k,a,m,d⟩,⟨k',a',m',d'⟩,_⟩ _ ⟨_,_,rfl,⟨rfl,hc⟩,_,_,rfl,hx,_,_,rfl,hy,rfl⟩ ⟨hM,hB,hB'⟩
 dsimp only at hc hx hy hM hB hB'
 have hsb:∀ (k:Nat) (a m:Int) (d:List Nat) (Q:AV->St->Prop) s l,akC.r (k,a,m,d) l->akB c (k,a,m,d)->Q (.tup [lstV a m.toNat,.int .i64 0]) s->ESc e 294 [.agg c.c,.agg l] s Q:=fun k a m d Q s l hl hb q=>Fn.u (F:=sblF) h189 (c,(k,a,m,d),()) ⟨_,_,rfl,⟨rfl,hc⟩,_,_,rfl,hl,rfl⟩ hM (by
  show Q (if akE c (k,a,m,d)=0 then .tup [lstV a m.toNat,.int .i64 0] else .tup [.nils,.int .i64 (akE c (k,a,m,d))]) s
  rw [if_pos (akE_iff.2 hb)];exact q)
 obtain ⟨v,rfl,o1,o2,o3,hd⟩:=ak_of hx
 obtain ⟨v',rfl,o1',o2',o3',hd'⟩:=ak_of hy
 have hs1:=fun Q s=>hsb _ _ _ _ Q s _ hx hB
 have hs2:=fun Q s=>hsb _ _ _ _ Q s _ hy hB'
 have hr1:=akC.hf hx
 have hr2:=akC.hf hy
 have hz:m=0->a=0:=by have:=hB.2.2.1;have:=hB.2.2.2.1;omega
 have hz':m'=0->a'=0:=by have:=hB'.2.2.1;have:=hB'.2.2.2.1;omega
 have hm:=ak_small hM hB
 have hm':=ak_small hM hB'
 have hof:∀ (k:Nat) (Q:AV->St->Prop) s,k<256->Q (ofV k) s->ESc e 321 [.int .u8 (k:Int)] s Q:=fun k Q s hk q=>Fn.u (F:=ofF) h212 (k,()) ⟨_,_,rfl,⟨rfl,hk⟩,rfl⟩ trivial q
 have hof1:=fun Q s=>hof k Q s o1
 have hof2:=fun Q s=>hof k' Q s o1'
 have hw:(wrB k=true↔(k=2∨k=3∨k=5)):=by unfold wrB;exact decide_eq_true_iff
 have hw':(wrB k'=true↔(k'=2∨k'=3∨k'=5)):=by unfold wrB;exact decide_eq_true_iff
 unfold ofV at hof1 hof2
 clear hsb hof
 refine ⟨rfl,C.of_G hE g298 ?_⟩
 have ft:meetP (k,a,m,d) (k',a',m',d')->∀ st,Frz st (.tup [.bool true,.int .i64 0]) (tchF.out (c,(k,a,m,d),(k',a',m',d'),())):=fun h st=>.tup _ _ (.cons (pT h) (.cons (.plain _ rfl) .nil))
 have ff:¬meetP (k,a,m,d) (k',a',m',d')->∀ st,Frz st (.tup [.bool false,.int .i64 0]) (tchF.out (c,(k,a,m,d),(k',a',m',d'),())):=fun h st=>.tup _ _ (.cons (pF h) (.cons (.plain _ rfl) .nil))
 generalize tchF.out _=O at ft ff ⊢
 unfold meetP at ft ff
 dsimp only at ft ff
 obtain ⟨n,rfl⟩:∃ n:Nat,m=n:=⟨m.toNat,by omega⟩
 obtain ⟨n',rfl⟩:∃ n:Nat,m'=n:=⟨m'.toNat,by omega⟩
 rw [Int.toNat_natCast] at hs1 hs2
 have hL1:=lstV_Ls (a:=a) (n:=n) (fun i hi=>by unfold i64B;omega) (by omega)
 have hL2:=lstV_Ls (a:=a') (n:=n') (fun i hi=>by unfold i64B;omega) (by omega)
 rw [← hw,← hw'] at ft ff
 generalize wrB k=b1 at *
 generalize wrB k'=b2 at *
 generalize (if k=4∨k=6∨k=0∨6<k then (0:Int) else 8)=y1 at hof1
 generalize (if k'=4∨k'=6∨k'=0∨6<k' then (0:Int) else 8)=y2 at hof2
 generalize decide (k=2∨k=3)=y3 at hof1
 generalize decide (k'=2∨k'=3)=y4 at hof2
 generalize decide (1≤k∧k≤6)=y5 at hof1
 generalize decide (1≤k'∧k'≤6)=y6 at hof2
 generalize lstV a n=u at *
 generalize lstV a' n'=u' at *
 have hu:=hL1.hf
 have hu':=hL2.hf
 obtain ⟨cs,k1,-,e1⟩:=hL1.nth
 obtain ⟨cs',k2,-,e2⟩:=hL2.nth
 rw [List.length_map,List.length_range] at k1 k2 e1 e2
 change VW P e 0 _ (initT [.agg c.c,.agg [.int .u8 (k:Int),.int .i64 a,.int .i64 (n:Int),v],.agg [.int .u8 (k':Int),.int .i64 a',.int .i64 (n':Int),v']] 0 .lf) St0 none [] _
 cases b1 <;> cases b2
 all_goals
  conv=>whnf
  repeat' (first|((first|refine hs1 _ _ ?_|refine hs2 _ _ ?_|refine hof1 _ _ ?_|refine hof2 _ _ ?_|refine nq21 k1 ?_);conv=>whnf)|refine nq6 ?_ ?_|(intro _;first|omega|conv=>whnf))
 ·replace ff:=ff (by simp)
  clear ft
  clear hof1 hof2 hs1 hs2
  refine W.upE hE (β:=List (AV×AV×Nat)×Nat) n (fun i b=>[(10,u'),(15,.map 0),(16,.int .i64 1),(58,u),(59,.int .i64 (n:Int)),(60,.int .i64 (i:Int))]) (fun i b=>[.map b.1 b.2]) (fun i b=>KM (.int .i64 1) b.1 (ksI a i)) ([],0) (KM.nil _) (Abs.tells (rs:=[5]) .a) ?_
  rintro i ⟨es,N⟩ hi hK
  dsimp only at hK ⊢
  by_cases hlt:i<n
  ·obtain ⟨x,_,r,h1,⟨rfl,-⟩,h3⟩:=e1 i hlt
   rw [List.getElem?_map,List.getElem?_range hlt] at h1
   cases h1
   replace h3:cs.drop (i*1)=[.int .i64 (a+(i:Int))]++r:=h3
   conv=>whnf
   repeat' (first|((first|refine nq23 k1 hlt h3 ?_|refine nq22 ?_|refine EPrim.msetK rfl rfl rfl rfl hK (fun es' N' hK'=>?_)|refine nq7 ?_|refine ⟨rfl,?_⟩);conv=>whnf)|refine nq1 ?_ ?_|(intro _;first|omega|conv=>whnf))
   refine ⟨hlt,(es',N'),hK',Abs.tells (rs:=[0]) ⟨by decide,⟨t9,r9,r9,t9,r9,r9,trivial⟩,⟨⟨bdE_KM rfl hK',?_⟩,trivial⟩⟩⟩
   show _=some (AObj.map (mapE _ es') N');rw [mapE_KM rfl hK'];rfl
  ·obtain rfl:i=n:=by omega
   conv=>whnf
   repeat' (first|(refine nq21 k2 ?_;conv=>whnf)|refine nq1 ?_ ?_|(intro _;first|omega|conv=>whnf))
   refine W.up hE n' (fun j=>[(15,.map 0),(68,u'),(69,.int .i64 (n':Int)),(70,.int .i64 (j:Int))]) (fun j=>[.map es N]) (fun j=>∀ k<j,¬(a'+(k:Int) ∈ ksI a i∧(1:Int)=2)) (fun k h=>by omega) (Abs.tells (rs:=[0]) ⟨by decide,⟨r9,t9,r9,r9,trivial⟩,⟨⟨bdE_KM rfl hK,?_⟩,trivial⟩⟩) ?_
   ·show _=some (AObj.map (mapE _ es) N);rw [mapE_KM rfl hK];rfl
   intro j hj hJ
   by_cases hjl:j<n'
   ·obtain ⟨x,_,r,h1,⟨rfl,-⟩,h3⟩:=e2 j hjl
    rw [List.getElem?_map,List.getElem?_range hjl] at h1
    cases h1
    replace h3:cs'.drop (j*1)=[.int .i64 (a'+(j:Int))]++r:=h3
    conv=>whnf
    repeat' (first|(refine EPrim.mgetK rfl rfl rfl hK (fun hin=>?_) (fun hin=>?_) <;> conv=>whnf)|((first|refine nq23 k2 hjl h3 ?_|refine nq22 ?_|refine nq7 ?_|refine ⟨rfl,?_⟩);conv=>whnf)|refine nq1 ?_ ?_|refine nq3 ?_ ?_|(intro _;first|omega|conv=>whnf))
    all_goals first
     | exact ft (by rw [ksI_mem] at hin;omega) _
     | (refine ⟨hjl,all_succ hJ (fun q=>by first|exact hin q.1|exact absurd q.2 (by decide)),Abs.tells (rs:=[0]) ⟨by decide,⟨r9,t9,r9,r9,trivial⟩,⟨⟨bdE_KM rfl hK,?_⟩,trivial⟩⟩⟩
        show _=some (AObj.map (mapE _ es) N);rw [mapE_KM rfl hK];rfl)
   ·conv=>whnf
    repeat' (first|refine nq1 ?_ ?_|(intro _;first|omega|conv=>whnf))
    exact ff _
 ·replace ft:=fun q=>ft ⟨by simp,q⟩
  replace ff:=fun (q:¬(a<a'+(n':Int)∧a'<a+(n:Int)))=>ff fun q'=>q q'.2
  clear hof1 hof2 hs1 hs2
  refine W.upE hE (β:=List (AV×AV×Nat)×Nat) n (fun i b=>[(10,u'),(15,.map 0),(16,.int .i64 2),(58,u),(59,.int .i64 (n:Int)),(60,.int .i64 (i:Int))]) (fun i b=>[.map b.1 b.2]) (fun i b=>KM (.int .i64 2) b.1 (ksI a i)) ([],0) (KM.nil _) (Abs.tells (rs:=[5]) .a) ?_
  rintro i ⟨es,N⟩ hi hK
  dsimp only at hK ⊢
  by_cases hlt:i<n
  ·obtain ⟨x,_,r,h1,⟨rfl,-⟩,h3⟩:=e1 i hlt
   rw [List.getElem?_map,List.getElem?_range hlt] at h1
   cases h1
   replace h3:cs.drop (i*1)=[.int .i64 (a+(i:Int))]++r:=h3
   conv=>whnf
   repeat' (first|((first|refine nq23 k1 hlt h3 ?_|refine nq22 ?_|refine EPrim.msetK rfl rfl rfl rfl hK (fun es' N' hK'=>?_)|refine nq7 ?_|refine ⟨rfl,?_⟩);conv=>whnf)|refine nq1 ?_ ?_|(intro _;first|omega|conv=>whnf))
   refine ⟨hlt,(es',N'),hK',Abs.tells (rs:=[0]) ⟨by decide,⟨t9,r9,r9,t9,r9,r9,trivial⟩,⟨⟨bdE_KM rfl hK',?_⟩,trivial⟩⟩⟩
   show _=some (AObj.map (mapE _ es') N');rw [mapE_KM rfl hK'];rfl
  ·obtain rfl:i=n:=by omega
   conv=>whnf
   repeat' (first|(refine nq21 k2 ?_;conv=>whnf)|refine nq1 ?_ ?_|(intro _;first|omega|conv=>whnf))
   refine W.up hE n' (fun j=>[(15,.map 0),(68,u'),(69,.int .i64 (n':Int)),(70,.int .i64 (j:Int))]) (fun j=>[.map es N]) (fun j=>∀ k<j,¬(a'+(k:Int) ∈ ksI a i∧(2:Int)=2)) (fun k h=>by omega) (Abs.tells (rs:=[0]) ⟨by decide,⟨r9,t9,r9,r9,trivial⟩,⟨⟨bdE_KM rfl hK,?_⟩,trivial⟩⟩) ?_
   ·show _=some (AObj.map (mapE _ es) N);rw [mapE_KM rfl hK];rfl
   intro j hj hJ
   by_cases hjl:j<n'
   ·obtain ⟨x,_,r,h1,⟨rfl,-⟩,h3⟩:=e2 j hjl
    rw [List.getElem?_map,List.getElem?_range hjl] at h1
    cases h1
    replace h3:cs'.drop (j*1)=[.int .i64 (a'+(j:Int))]++r:=h3
    conv=>whnf
    repeat' (first|(refine EPrim.mgetK rfl rfl rfl hK (fun hin=>?_) (fun hin=>?_) <;> conv=>whnf)|((first|refine nq23 k2 hjl h3 ?_|refine nq22 ?_|refine nq7 ?_|refine ⟨rfl,?_⟩);conv=>whnf)|refine nq1 ?_ ?_|refine nq3 ?_ ?_|(intro _;first|omega|conv=>whnf))
    all_goals first
     | exact ft (by rw [ksI_mem] at hin;omega) _
     | (refine ⟨hjl,all_succ hJ (fun q=>by first|exact hin q.1|exact absurd q.2 (by decide)),Abs.tells (rs:=[0]) ⟨by decide,⟨r9,t9,r9,r9,trivial⟩,⟨⟨bdE_KM rfl hK,?_⟩,trivial⟩⟩⟩
        show _=some (AObj.map (mapE _ es) N);rw [mapE_KM rfl hK];rfl)
   ·conv=>whnf
    repeat' (first|refine nq1 ?_ ?_|(intro _;first|omega|conv=>whnf))
    exact ff (fun q=>hJ (if a'≤a then (a-a').toNat else 0) (by split <;> omega) ⟨by rw [ksI_mem];split <;> omega,rfl⟩) _
 ·replace ft:=fun q=>ft ⟨by simp,q⟩
  replace ff:=fun (q:¬(a<a'+(n':Int)∧a'<a+(n:Int)))=>ff fun q'=>q q'.2
  clear hof1 hof2 hs1 hs2
  refine W.upE hE (β:=List (AV×AV×Nat)×Nat) n (fun i b=>[(10,u'),(15,.map 0),(16,.int .i64 2),(58,u),(59,.int .i64 (n:Int)),(60,.int .i64 (i:Int))]) (fun i b=>[.map b.1 b.2]) (fun i b=>KM (.int .i64 2) b.1 (ksI a i)) ([],0) (KM.nil _) (Abs.tells (rs:=[5]) .a) ?_
  rintro i ⟨es,N⟩ hi hK
  dsimp only at hK ⊢
  by_cases hlt:i<n
  ·obtain ⟨x,_,r,h1,⟨rfl,-⟩,h3⟩:=e1 i hlt
   rw [List.getElem?_map,List.getElem?_range hlt] at h1
   cases h1
   replace h3:cs.drop (i*1)=[.int .i64 (a+(i:Int))]++r:=h3
   conv=>whnf
   repeat' (first|((first|refine nq23 k1 hlt h3 ?_|refine nq22 ?_|refine EPrim.msetK rfl rfl rfl rfl hK (fun es' N' hK'=>?_)|refine nq7 ?_|refine ⟨rfl,?_⟩);conv=>whnf)|refine nq1 ?_ ?_|(intro _;first|omega|conv=>whnf))
   refine ⟨hlt,(es',N'),hK',Abs.tells (rs:=[0]) ⟨by decide,⟨t9,r9,r9,t9,r9,r9,trivial⟩,⟨⟨bdE_KM rfl hK',?_⟩,trivial⟩⟩⟩
   show _=some (AObj.map (mapE _ es') N');rw [mapE_KM rfl hK'];rfl
  ·obtain rfl:i=n:=by omega
   conv=>whnf
   repeat' (first|(refine nq21 k2 ?_;conv=>whnf)|refine nq1 ?_ ?_|(intro _;first|omega|conv=>whnf))
   refine W.up hE n' (fun j=>[(15,.map 0),(68,u'),(69,.int .i64 (n':Int)),(70,.int .i64 (j:Int))]) (fun j=>[.map es N]) (fun j=>∀ k<j,¬(a'+(k:Int) ∈ ksI a i∧(2:Int)=2)) (fun k h=>by omega) (Abs.tells (rs:=[0]) ⟨by decide,⟨r9,t9,r9,r9,trivial⟩,⟨⟨bdE_KM rfl hK,?_⟩,trivial⟩⟩) ?_
   ·show _=some (AObj.map (mapE _ es) N);rw [mapE_KM rfl hK];rfl
   intro j hj hJ
   by_cases hjl:j<n'
   ·obtain ⟨x,_,r,h1,⟨rfl,-⟩,h3⟩:=e2 j hjl
    rw [List.getElem?_map,List.getElem?_range hjl] at h1
    cases h1
    replace h3:cs'.drop (j*1)=[.int .i64 (a'+(j:Int))]++r:=h3
    conv=>whnf
    repeat' (first|(refine EPrim.mgetK rfl rfl rfl hK (fun hin=>?_) (fun hin=>?_) <;> conv=>whnf)|((first|refine nq23 k2 hjl h3 ?_|refine nq22 ?_|refine nq7 ?_|refine ⟨rfl,?_⟩);conv=>whnf)|refine nq1 ?_ ?_|refine nq3 ?_ ?_|(intro _;first|omega|conv=>whnf))
    all_goals first
     | exact ft (by rw [ksI_mem] at hin;omega) _
     | (refine ⟨hjl,all_succ hJ (fun q=>by first|exact hin q.1|exact absurd q.2 (by decide)),Abs.tells (rs:=[0]) ⟨by decide,⟨r9,t9,r9,r9,trivial⟩,⟨⟨bdE_KM rfl hK,?_⟩,trivial⟩⟩⟩
        show _=some (AObj.map (mapE _ es) N);rw [mapE_KM rfl hK];rfl)
   ·conv=>whnf
    repeat' (first|refine nq1 ?_ ?_|(intro _;first|omega|conv=>whnf))
    exact ff (fun q=>hJ (if a'≤a then (a-a').toNat else 0) (by split <;> omega) ⟨by rw [ksI_mem];split <;> omega,rfl⟩) _
 ·replace ft:=fun q=>ft ⟨by simp,q⟩
  replace ff:=fun (q:¬(a<a'+(n':Int)∧a'<a+(n:Int)))=>ff fun q'=>q q'.2
  clear hof1 hof2 hs1 hs2
  refine W.upE hE (β:=List (AV×AV×Nat)×Nat) n (fun i b=>[(10,u'),(15,.map 0),(16,.int .i64 2),(58,u),(59,.int .i64 (n:Int)),(60,.int .i64 (i:Int))]) (fun i b=>[.map b.1 b.2]) (fun i b=>KM (.int .i64 2) b.1 (ksI a i)) ([],0) (KM.nil _) (Abs.tells (rs:=[5]) .a) ?_
  rintro i ⟨es,N⟩ hi hK
  dsimp only at hK ⊢
  by_cases hlt:i<n
  ·obtain ⟨x,_,r,h1,⟨rfl,-⟩,h3⟩:=e1 i hlt
   rw [List.getElem?_map,List.getElem?_range hlt] at h1
   cases h1
   replace h3:cs.drop (i*1)=[.int .i64 (a+(i:Int))]++r:=h3
   conv=>whnf
   repeat' (first|((first|refine nq23 k1 hlt h3 ?_|refine nq22 ?_|refine EPrim.msetK rfl rfl rfl rfl hK (fun es' N' hK'=>?_)|refine nq7 ?_|refine ⟨rfl,?_⟩);conv=>whnf)|refine nq1 ?_ ?_|(intro _;first|omega|conv=>whnf))
   refine ⟨hlt,(es',N'),hK',Abs.tells (rs:=[0]) ⟨by decide,⟨t9,r9,r9,t9,r9,r9,trivial⟩,⟨⟨bdE_KM rfl hK',?_⟩,trivial⟩⟩⟩
   show _=some (AObj.map (mapE _ es') N');rw [mapE_KM rfl hK'];rfl
  ·obtain rfl:i=n:=by omega
   conv=>whnf
   repeat' (first|(refine nq21 k2 ?_;conv=>whnf)|refine nq1 ?_ ?_|(intro _;first|omega|conv=>whnf))
   refine W.up hE n' (fun j=>[(15,.map 0),(68,u'),(69,.int .i64 (n':Int)),(70,.int .i64 (j:Int))]) (fun j=>[.map es N]) (fun j=>∀ k<j,¬(a'+(k:Int) ∈ ksI a i∧(2:Int)=2)) (fun k h=>by omega) (Abs.tells (rs:=[0]) ⟨by decide,⟨r9,t9,r9,r9,trivial⟩,⟨⟨bdE_KM rfl hK,?_⟩,trivial⟩⟩) ?_
   ·show _=some (AObj.map (mapE _ es) N);rw [mapE_KM rfl hK];rfl
   intro j hj hJ
   by_cases hjl:j<n'
   ·obtain ⟨x,_,r,h1,⟨rfl,-⟩,h3⟩:=e2 j hjl
    rw [List.getElem?_map,List.getElem?_range hjl] at h1
    cases h1
    replace h3:cs'.drop (j*1)=[.int .i64 (a'+(j:Int))]++r:=h3
    conv=>whnf
    repeat' (first|(refine EPrim.mgetK rfl rfl rfl hK (fun hin=>?_) (fun hin=>?_) <;> conv=>whnf)|((first|refine nq23 k2 hjl h3 ?_|refine nq22 ?_|refine nq7 ?_|refine ⟨rfl,?_⟩);conv=>whnf)|refine nq1 ?_ ?_|refine nq3 ?_ ?_|(intro _;first|omega|conv=>whnf))
    all_goals first
     | exact ft (by rw [ksI_mem] at hin;omega) _
     | (refine ⟨hjl,all_succ hJ (fun q=>by first|exact hin q.1|exact absurd q.2 (by decide)),Abs.tells (rs:=[0]) ⟨by decide,⟨r9,t9,r9,r9,trivial⟩,⟨⟨bdE_KM rfl hK,?_⟩,trivial⟩⟩⟩
        show _=some (AObj.map (mapE _ es) N);rw [mapE_KM rfl hK];rfl)
   ·conv=>whnf
    repeat' (first|refine nq1 ?_ ?_|(intro _;first|omega|conv=>whnf))
    exact ff (fun q=>hJ (if a'≤a then (a-a').toNat else 0) (by split <;> omega) ⟨by rw [ksI_mem];split <;> omega,rfl⟩) _
def cd210:AC:=match a319 with|.mk c _=>c
def cd211:AC:=match a320 with|.mk c _=>c
noncomputable def fbkF:Fn (Fl×Int×Unit):=bF (.g ftC (.v i64C .nil)) (fun x=>0≤x.2.1∧x.2.1<x.1.2.2.1.length∧x.2.1<x.1.2.2.2.1.length∧x.2.1<x.1.2.2.2.2.length) fun x=>flP x.1 x.2.1.toNat
set_option maxHeartbeats 2000000 in
theorem fbkF_ok (hE:EM P e) (h210:Inl e 319 cd210 [.tmp 2]) (h211:Inl e 320 cd211 [.tmp 2]):OvOk P 295 fbkF.O:=by
 refine bF_ok hE g295 ?_
 rintro ⟨⟨n,⟨k,a,m,d⟩,st,sq,da⟩,j,_⟩ _ ⟨_,_,rfl,hf,_,_,rfl,⟨e1,-⟩,rfl⟩ ⟨q1,q2,q3,q4⟩ K t f
 cases e1
 obtain ⟨dv,tv,qv,av,rfl,o1,o2,o3,o4,h1,h2,h3,h4⟩:=fl_of hf
 dsimp only at q1 q2 q3 q4
 obtain ⟨i,rfl⟩:∃ i:Nat,j=i:=⟨j.toNat,by omega⟩
 obtain ⟨ts,hs1,-,hn1⟩:=h2.nth
 obtain ⟨qs,hs2,-,hn2⟩:=h3.nth
 obtain ⟨es,hs3,-,hn3⟩:=h4.nth
 obtain ⟨s,_,r1,hx1,⟨rfl,hlt⟩,hd1⟩:=hn1 i (by omega)
 obtain ⟨q,_,r2,hx2,⟨rfl,hq⟩,hd2⟩:=hn2 i (by omega)
 obtain ⟨b,_,r3,hx3,⟨u,rfl,hu⟩,hd3⟩:=hn3 i (by omega)
 obtain ⟨us,hus,-⟩:=hu.nth
 have hq:=wf_u32 hq
 unfold u32B at hq
 have hi1:i<st.length:=by omega
 have hi2:i<sq.length:=by omega
 have hi3:i<da.length:=by omega
 unfold flP at t f
 dsimp only at t f
 rw [Int.toNat_natCast,hx1,hx2,hx3] at t f
 unfold partP at t f
 dsimp only [Option.getD] at t f
 generalize b.length=bn at t f hus
 clear hx3 hu hf h1 h2 h3 h4 hn1 hn2 hn3 q1 q2 q3 q4
 change VW P e 0 _ (initT [_,.int .i64 (i:Int)] 0 .lf) St0 none [] _
 conv=>whnf
 repeat' (first|((first|refine nq23 hs1 hi1 hd1 ?_|refine nq23 hs2 hi2 hd2 ?_|refine nq23 hs3 hi3 hd3 ?_|refine nq22 ?_|refine nq21 hus ?_|refine ETake.eq (cs:=[.int .u8 (k:Int),.int .i64 a,.int .i64 m,dv]) rfl ?_|refine ESc.inl h210 ?_|refine ESc.inl h211 ?_|refine nq15 ?_|refine ⟨rfl,?_⟩);conv=>whnf)|refine nq3 ?_ ?_|refine nq5 ?_ ?_|(intro _;first|omega|conv=>whnf))
 all_goals first
  | exact t (by omega) _
  | exact f (by omega) _
noncomputable def fonF:Fn (Cfg×Fl×Unit):=bF (.g cfgC (.g ftC .nil)) (fun x=>x.1.may) fun x=>eflB x.1 x.2.1
set_option maxHeartbeats 2000000 in
theorem fonF_ok (hE:EM P e) (h189:Con e 294 sblF.O) (h190:Con e 295 fbkF.O):OvOk P 247 fonF.O:=by
 refine bF_ok hE g247 ?_
 rintro ⟨c,⟨n,⟨k,a,m,d⟩,st,sq,da⟩,_⟩ _ ⟨_,_,rfl,⟨rfl,hc⟩,_,_,rfl,hf,rfl⟩ hM K t f
 have hM:c.may:=hM
 obtain ⟨dv,tv,qv,av,rfl,o1,o2,o3,o4,h1,h2,h3,h4⟩:=fl_of hf
 have hrow:=ftC.hf hf
 have hak:=ak_mk o2 o3 o4 h1
 obtain ⟨ts,hs1,hl1,-⟩:=h2.nth
 obtain ⟨qs,hs2,hl2,-⟩:=h3.nth
 obtain ⟨es,hs3,hl3,-⟩:=h4.nth
 dsimp only at t f hf hc
 have hc1:=fun (Q:AV->St->Prop) s q=>@Fn.u _ e 294 s Q sblF _ h189 (c,(k,a,m,d),()) ⟨_,_,rfl,⟨rfl,hc⟩,_,_,rfl,hak,rfl⟩ hM q
 have hc2:=fun (i:Nat) (h0:i<st.length) (hi:i<st.length∧i<sq.length∧i<da.length) (Q:AV->St->Prop) s a' b=>@bF.u _ _ _ _ e 295 s Q [_,.int .i64 (i:Int)] h190 ((n,(k,a,m,d),st,sq,da),(i:Int),()) ⟨_,_,rfl,hf,_,_,rfl,⟨rfl,i64_wf (show i64B (i:Int) by unfold i64B;omega)⟩,rfl⟩ ⟨Int.natCast_nonneg _,Int.ofNat_lt.2 hi.1,Int.ofNat_lt.2 hi.2.1,Int.ofNat_lt.2 hi.2.2⟩ a' b
 replace hc2:∀ i:Nat,i<st.length->i<sq.length->i<da.length->∀ (Q:AV->St->Prop) s,(flP (n,(k,a,m,d),st,sq,da) i->Q (.bool true) s)->(¬flP (n,(k,a,m,d),st,sq,da) i->Q (.bool false) s)->ESc e 295 [.agg [.int .i64 n,.int .u8 (k:Int),.int .i64 a,.int .i64 m,dv,tv,qv,av],.int .i64 (i:Int)] s Q:=fun i h1 h2 h3 Q s a b=>hc2 i h1 ⟨h1,h2,h3⟩ Q s a b
 have hk:akB c (k,a,m,d)->0≤m∧m≤8∧(k=4->m=0):=fun h=>by unfold akB at h;omega
 replace hc1:∀ (Q:AV->St->Prop) s,Q (if akE c (k,a,m,d)=0 then .tup [lstV a m.toNat,.int .i64 0] else .tup [.nils,.int .i64 (akE c (k,a,m,d))]) s->ESc e 294 [.agg c.c,.agg [.int .u8 (k:Int),.int .i64 a,.int .i64 m,dv]] s Q:=hc1
 unfold eflB at t f
 dsimp only at t f
 unfold i64B at o1 o3 o4
 change VW P e 0 _ (initT [.agg c.c,_] 0 .lf) St0 none [] _
 by_cases hA:akB c (k,a,m,d)
 ·have hm:=hk hA
  have hsm:=ak_small hM hA
  rw [if_pos (akE_iff.2 hA)] at hc1
  generalize hP:flP (n,(k,a,m,d),st,sq,da)=R at t f hc2
  have hL:=lstV_Ls (a:=a) (n:=m.toNat) (fun i hi=>by unfold i64B;omega) (by omega)
  generalize lstV a m.toNat=u at *
  have huf:=hL.hf
  obtain ⟨us,hus,-,-⟩:=hL.nth
  rw [List.length_map,List.length_range] at hus
  conv=>whnf
  repeat' (first|((first|refine hc1 _ _ ?_|refine nq21 hus ?_|refine nq21 hs1 ?_|refine nq21 hs2 ?_|refine nq21 hs3 ?_);conv=>whnf)|refine nq1 ?_ ?_|refine nq5 ?_ ?_|refine nq6 ?_ ?_|(intro _;first|omega|conv=>whnf))
  all_goals try exact f (fun q=>by omega) _
  all_goals
   have g1:1≤n:=by omega
   have g2:(st.length:Int)=m:=by omega
   have g3:(da.length:Int)=m:=by omega
   have g4:k≠4->(sq.length:Int)=m:=by omega
   have g5:k=4->sq.length=1:=by omega
   refine W.up hE st.length (fun i=>[(3,.ptr 1 0),(53,.int .i64 (st.length:Int)),(54,.int .i64 (i:Int))]) (fun _=>[.row 24 c.c,.row 262 [.int .i64 n,.int .u8 (k:Int),.int .i64 a,.int .i64 m,dv,tv,qv,av]]) (fun i=>∀ j<i,R j) (fun k h=>by omega) (Abs.tells (rs:=[0,1]) ⟨by decide,⟨r9,⟨rfl,?_⟩,r9,trivial⟩,⟨r9,o9 hrow,trivial⟩⟩) ?_
   ·show some (AV.int .i64 ((m.toNat:Nat):Int))=some (.int .i64 (st.length:Int));rw [show m.toNat=st.length by omega]
   intro i hi hI
   by_cases hlt:i<st.length
   ·have hc2:=hc2 i hlt (by omega) (by omega)
    conv=>whnf
    repeat' (first|(refine hc2 _ _ (fun hq=>?_) (fun hq=>?_) <;> conv=>whnf)|((first|refine ETake.eq (cs:=[.int .i64 n,.int .u8 (k:Int),.int .i64 a,.int .i64 m,dv,tv,qv,av]) rfl ?_|refine nq7 ?_|refine nq12 ?_|refine nq13 ?_|refine ⟨rfl,?_⟩);conv=>whnf)|refine nq1 ?_ ?_|(intro _;first|omega|conv=>whnf))
    all_goals first
     | exact ⟨hlt,all_succ hI hq,Abs.tells (rs:=[0,1]) .a⟩
     | exact f (fun q=>hq (q.2.2.2.2.2.2 i hlt)) _
   ·conv=>whnf
    repeat' (first|refine nq1 ?_ ?_|(intro _;first|omega|conv=>whnf))
    exact t ⟨g1,hA,g2,g3,g4,g5,fun j hj=>hI j (by omega)⟩ _
 ·have hne:=mt akE_iff.1 hA
  rw [if_neg hne] at hc1
  generalize akE c (k,a,m,d)=E at *
  conv=>whnf
  repeat' (first|((first|refine hc1 _ _ ?_|refine EPrim.lenZ rfl (show Sl 1 0 [] .nils from .inl ⟨rfl,rfl,rfl⟩) ?_);conv=>whnf)|refine nq5 ?_ ?_|refine nq6 ?_ ?_|(intro _;first|omega|conv=>whnf))
  all_goals first
   | exact f (fun q=>hA q.2.1) _
   | exact absurd (by assumption) hne
def cd192:AC:=match a297 with|.mk c _=>c
def cd152:AC:=match a249 with|.mk c _=>c
def f1Ok (c:Cfg×List Fl×Int×Unit) (xs:List Fl):Prop:=c.1.may∧(0≤c.2.2.1∧c.2.2.1<c.2.1.length)∧(∀ y,c.2.1[c.2.2.1.toNat]?=some y->akB c.1 y.2.1)∧∀ x ∈ xs,akB c.1 x.2.1
def f1P (c:Cfg×List Fl×Int×Unit) (x:Fl):Prop:=∀ y,c.2.1[c.2.2.1.toNat]?=some y->meetP x.2.1 y.2.1
abbrev f1H:Sg (Cfg×List Fl×Int×Unit):=.p cfgC (.p ftC.sl (.p i64C .nil))
noncomputable def ix192:Fn (List Fl×(Cfg×List Fl×Int×Unit)×Unit):=ixF ftC 297 f1H f1Ok f1P
theorem call192 (h192:Inl e 297 cd192 [.tmp 5]) (h193:Con e 298 tchF.O):CallP e ftC AV.agg 297 f1H f1Ok f1P:=by
 rintro ⟨c,L,a,_⟩ q xs ⟨n,⟨k,at',m,d⟩,st,sq,da⟩ l ⟨_,_,rfl,⟨rfl,hc⟩,_,_,rfl,⟨lv,rfl,hL⟩,_,_,rfl,⟨rfl,ha⟩,rfl⟩ ⟨hM,ha0,hy,hxs⟩ hmem hx Q t f
 dsimp only at hc hL ha hM ha0 hy hxs
 have hkx:=hxs _ hmem
 obtain ⟨dv,tv,qv,av,rfl,o1,o2,o3,o4,h1,-⟩:=fl_of hx
 obtain ⟨cs,hs,hl,hn⟩:=hL.nth
 obtain ⟨⟨n',⟨k',a',m',d'⟩,st',sq',da'⟩,_,r,hx',hxr,hd⟩:=hn a.toNat (by omega)
 have hky:=hy _ hx'
 obtain ⟨dv',tv',qv',av',rfl,p1,p2,p3,p4,g1,-⟩:=fl_of hxr
 unfold f1P at t f
 dsimp only at t f hkx hky
 rw [hx'] at t f
 have hcall:=fun (Q:AV->St->Prop) s q=>@Fn.u _ e 298 s Q tchF [.agg c.c,.agg [.int .u8 (k:Int),.int .i64 at',.int .i64 m,dv],.agg [.int .u8 (k':Int),.int .i64 a',.int .i64 m',dv']] h193 (c,(k,at',m,d),(k',a',m',d'),()) ⟨_,_,rfl,⟨rfl,hc⟩,_,_,rfl,ak_mk o2 o3 o4 h1,_,_,rfl,ak_mk p2 p3 p4 g1,rfl⟩ ⟨hM,hkx,hky⟩ q
 replace hcall:∀ (Q:AV->St->Prop) s,Q (.tup [pB (meetP (k,at',m,d) (k',a',m',d')),.int .i64 0]) s->ESc e 298 [.agg c.c,.agg [.int .u8 (k:Int),.int .i64 at',.int .i64 m,dv],.agg [.int .u8 (k':Int),.int .i64 a',.int .i64 m',dv']] s Q:=hcall
 refine ECall.inl h192.O h192.G ?_
 change VE e _ (initT [.agg [.int .i64 n,.int .u8 (k:Int),.int .i64 at',.int .i64 m,dv,tv,qv,av],.fp c.c,.fp [lv],.fp [.int .i64 a]] 0 .lf) _ none [] _
 classical
 by_cases hm:meetP (k,at',m,d) (k',a',m',d')
 all_goals
  unfold pB at hcall
  first|rw [decide_eq_true hm] at hcall|rw [decide_eq_false hm] at hcall
  conv=>whnf
  repeat' (first|((first|refine ETake.eq (cs:=c.c) rfl ?_|refine nq22 ?_|refine EPrim.ixsM rfl hs rfl (show a=(a.toNat:Nat) by omega) (by omega) hd ?_|refine ETake.eq (cs:=[.int .u8 (k':Int),.int .i64 a',.int .i64 m',dv']) rfl ?_|refine hcall _ _ ?_);conv=>whnf)|fail)
  first
   | exact t (fun y e=>by cases e;exact hm) _
   | exact f (fun q=>hm (q _ rfl)) _
noncomputable def ffsF:Fn (Cfg×List Fl×Int×Unit):=bF (.g cfgC (.v ftC.sl (.v i64C .nil))) (fun x=>x.1.may∧(0≤x.2.2.1∧x.2.2.1<x.2.1.length)∧∀ k:Nat,(k:Int)≤x.2.2.1->∀ y,x.2.1[k]?=some y->akB x.1 y.2.1) fun x=>firstP x.2.1 x.2.2.1.toNat
theorem ffsF_ok (hE:EM P e) (h107:Inl e 173 cn107 [.tmp 4]) (h154:Con e 251 (relS (capR ix192.R))):OvOk P 250 ffsF.O:=by
 refine bF_ok hE g250 ?_
 rintro ⟨c,L,a,_⟩ _ ⟨_,_,rfl,⟨rfl,hc⟩,v,_,rfl,⟨_,e0,hL⟩,_,_,rfl,⟨e1,z1⟩,rfl⟩ ⟨hM,ha0,hk⟩ K t f
 cases e0
 cases e1
 dsimp only at hc hL hM ha0 hk t f
 have hvf:=hL.hf
 have hok:f1Ok (c,L,a,()) (L.take a.toNat):=⟨hM,ha0,fun y h=>hk a.toNat (by omega) y h,fun x hx=>by
  obtain ⟨i,hi⟩:=List.getElem?_of_mem hx
  rw [List.getElem?_take] at hi
  split at hi
  ·exact hk i (by omega) x hi
  ·cases hi⟩
 have hidx:=fun (u:AV) (hu:Ls ftC (L.take a.toNat) u) (Q:AV->St->Prop) s k r0 r1 r2 (g0:s.get r0=some (.row 24 c.c)) (g1:s.get r1=some (.row 43 [v])) (g2:s.get r2=some (.row 3 [.int .i64 a]))=>@ESc.cap _ ix192 e 251 s Q h154 u 297 [.ptr r0 0,.ptr r1 0,.ptr r2 0] [.fp c.c,.fp [v],.fp [.int .i64 a]] (L.take a.toNat,(c,L,a,()),()) ⟨_,_,rfl,⟨_,rfl,hu⟩,_,_,rfl,⟨_,_,rfl,⟨rfl,hc⟩,_,_,rfl,⟨_,rfl,hL⟩,_,_,rfl,⟨rfl,z1⟩,rfl⟩,rfl⟩ hok (.cons ⟨r0,24,_,rfl,rfl,g0,rfl⟩ (.cons ⟨r1,43,_,rfl,rfl,g1,by show (AM.hf v && true)=true;rw [hvf];rfl⟩ (.cons ⟨r2,3,_,rfl,rfl,g2,rfl⟩ .nil))) rfl k
 have hpe:(∃ x ∈ L.take a.toNat,f1P (c,L,a,()) x)↔¬firstP L a.toNat:=by
  unfold firstP f1P
  dsimp only
  obtain ⟨y,hy⟩:∃ y,L[a.toNat]?=some y:=⟨_,List.getElem?_eq_getElem (by omega)⟩
  rw [hy]
  constructor
  ·rintro ⟨x,hx,hp⟩ h
   obtain ⟨i,hi⟩:=List.getElem?_of_mem hx
   rw [List.getElem?_take] at hi
   split at hi
   ·exact h y rfl i (by omega) x hi (hp y rfl)
   ·cases hi
  ·intro h
   refine Classical.byContradiction fun hn=>h fun z hz i hi x hx hm=>hn ⟨x,List.mem_of_getElem? (i:=i) (by rw [List.getElem?_take,if_pos hi];exact hx),fun w hw=>?_⟩
   cases hz;cases hw;exact hm
 change VW P e 0 _ (initT [.agg c.c,v,.int .i64 a] 0 .lf) St0 none [] _
 obtain ⟨i,rfl⟩:∃ i:Nat,a=i:=⟨a.toNat,by omega⟩
 rw [Int.toNat_natCast] at *
 have hcl:=hL.cell
 conv=>whnf
 repeat' (first|(refine cnt107 h107 (p:=f1P (c,L,(i:Int),())) (xs:=L.take i) (fun Q k=>hidx u hu Q _ k _ _ _ rfl (by show some (AObj.row 43 (cellsOf v))=_;rw [hcl]) rfl) (fun q=>?_) (fun q=>?_) <;> conv=>whnf)|((first|refine stuckB (by show Nat.beq (lenL (cellsOf v)) 1=true;rw [hcl];rfl) ?_|refine stuckO v (by show load1 1 0 _=_;exact load1_row (r:=1) (e:=43) (cs:=[v]) (by show some (AObj.row 43 (cellsOf v))=_;rw [hcl]) rfl) ?_|refine EPrim.slcP rfl hL rfl rfl (show i≤L.length by omega) (fun u hu=>?_)|refine nq12 ?_|refine nq13 ?_);conv=>whnf)|fail)
 ·exact f (hpe.1 q) _
 ·exact t (Classical.byContradiction fun h=>q (hpe.2 h)) _
noncomputable def ix152:Fn (List Nat×Unit×Unit):=ixF Ce.u8 249 .nil (fun _ _=>True) fun _ s=>s≠0
theorem call152 (h152:Inl e 249 cd152 [.tmp 2]):CallP e Ce.u8 one 249 .nil (fun _ _=>True) (fun (_:Unit) s=>s≠0):=by
 rintro c q xs s l rfl _ _ ⟨rfl,hs⟩ Q y n
 refine ECall.inl h152.O h152.G ?_
 change VE e _ (initT [.int .u8 (s:Int)] 0 .lf) _ none [] _
 conv=>whnf
 repeat' (first|refine nq6 ?_ ?_|(intro _;first|omega|conv=>whnf))
 all_goals first
  | exact y (by omega) _
  | exact n (by omega) _
noncomputable def fchF:Fn (Cfg×List Fl×Unit):=cF (.g cfgC (.v ftC.sl .nil)) (fun _=>True) fun x=>x.1.may∧flsB x.1 x.2.1
set_option maxHeartbeats 2000000 in
theorem fchF_ok (hE:EM P e) (h103:Con e 133 cfgF.O) (h150:Con e 247 fonF.O) (h151:Inl e 248 cn151 [.tmp 4]) (h153:Con e 250 ffsF.O) (h191:Con e 296 (relS (capR ix152.R))):OvOk P 172 fchF.O:=by
 refine cF_ok hE g172 ?_
 rintro ⟨c,L,_⟩ _ ⟨_,_,rfl,⟨rfl,hc⟩,v,_,rfl,⟨_,e0,hL⟩,rfl⟩-K t f
 cases e0
 dsimp only at t f hc hL
 have hvf:=hL.hf
 obtain ⟨cs,hs',hl,hn⟩:=hL.nth
 change VW P e 0 _ (initT [.agg c.c,v] 0 .lf) St0 none [] _
 by_cases hM:c.may
 ·have hcf:=cfg_y h103 hc hM
  replace t:=fun q=>t ⟨hM,q⟩
  replace f:=fun (q:¬flsB c L)=>f fun q'=>q q'.2
  have hc2:=fun y l (hy:ftC.r y l) (Q:AV->St->Prop) s a b=>@bF.u _ _ _ _ e 247 s Q [.agg c.c,.agg l] h150 (c,y,()) ⟨_,_,rfl,⟨rfl,hc⟩,_,_,rfl,hy,rfl⟩ hM a b
  have hc4:∀ i:Nat,i<L.length->(∀ k≤i,∀ y,L[k]?=some y->akB c y.2.1)->∀ (Q:AV->St->Prop) s,(firstP L i->Q (.bool true) s)->(¬firstP L i->Q (.bool false) s)->ESc e 250 [.agg c.c,v,.int .i64 (i:Int)] s Q:=fun i hi hS Q s a b=>@bF.u _ _ _ _ e 250 s Q _ h153 (c,L,(i:Int),()) ⟨_,_,rfl,⟨rfl,hc⟩,_,_,rfl,⟨_,rfl,hL⟩,_,_,rfl,⟨rfl,i64_wf (show i64B (i:Int) by unfold i64B;omega)⟩,rfl⟩ ⟨hM,⟨Int.natCast_nonneg _,Int.ofNat_lt.2 hi⟩,fun k hk=>hS k (Int.ofNat_le.1 hk)⟩ a b
  have hc3:=fun (st:List Nat) (u:AV) (hu:Ls Ce.u8 st u) (Q:AV->St->Prop) s k=>@ESc.cap _ ix152 e 296 s Q h191 u 249 [] [] (st,(),()) ⟨_,_,rfl,⟨_,rfl,hu⟩,_,_,rfl,rfl,rfl⟩ trivial .nil rfl k
  replace hc3:=fun (st:List Nat) (u:AV) (hu:Ls Ce.u8 st u) (Q:AV->St->Prop) s y n=>cnt151 (k:=Q) (s:=s) h151 (p:=fun (s:Nat)=>s≠0) (xs:=st) (fun Q k=>hc3 st u hu Q s k) y n
  unfold flsB at t f
  conv=>whnf
  repeat' (first|((first|refine hcf _ _ ?_|refine EPrim.lenZ rfl hs' ?_);conv=>whnf)|refine nq3 ?_ ?_|refine nq6 ?_ ?_|(intro _;first|omega|conv=>whnf))
  ·exact f (fun q=>by omega) _
  have h8:L.length≤8:=by omega
  refine W.up hE L.length (fun i=>[(1,v),(2,.ptr 0 0),(16,v),(17,.int .i64 (L.length:Int)),(18,.int .i64 (i:Int))]) (fun _=>[.row 24 c.c]) (fun i=>∀ k<i,∀ y,L[k]?=some y->flsP c L k y) (fun k h=>by omega) (Abs.tells (rs:=[0]) .a) ?_
  intro i hi hI
  by_cases hlt:i<L.length
  ·obtain ⟨y,l,r,hx,hcr,hd'⟩:=hn i hlt
   have hN:¬flsP c L i y->∀ s,K (.int .i64 8) s:=fun h=>f fun q=>h (q.2 i hlt y hx)
   have hT:flsP c L i y->∀ k<i+1,∀ y,L[k]?=some y->flsP c L k y:=fun h=>all_succ hI fun z hz=>by rw [hx] at hz;cases hz;exact h
   have hc2:=hc2 y l hcr
   have hc4:=fun h=>hc4 i hlt fun j hk z hz=>(by
    rcases Nat.lt_or_eq_of_le hk with hk|rfl
    ·obtain ⟨n,⟨k,a,m,d⟩,st,sq,da⟩:=z
     exact (hI j hk _ hz).1.2.1
    ·rw [hx] at hz;cases hz;exact h:akB c z.2.1)
   obtain ⟨n,⟨k,a,m,d⟩,st,sq,da⟩:=y
   obtain ⟨dv,tv,qv,av,rfl,o1,o2,o3,o4,-,h2,-⟩:=fl_of hcr
   have hc3:=hc3 st tv h2
   have hwt:¬(∃ x ∈ st,x≠0)↔waitsP (n,(k,a,m,d),st,sq,da):=by
    unfold waitsP
    dsimp only
    constructor
    ·intro h j hj s hs
     exact Classical.byContradiction fun q=>h ⟨s,List.mem_of_getElem? hs,q⟩
    ·rintro h ⟨s,hs,q⟩
     obtain ⟨j,hj⟩:=List.getElem?_of_mem hs
     exact q (h j (List.getElem?_eq_some_iff.1 hj).1 s hj)
   dsimp only at hc2 hc4
   clear t f hI
   by_cases h0:0<i
   ·obtain ⟨⟨n',⟨k',a',m',d'⟩,st',sq',da'⟩,l',r',hx',hc',hd2⟩:=hn (i-1) (by omega)
    obtain ⟨dv',tv',qv',av',rfl,-⟩:=fl_of hc'
    conv=>whnf
    repeat' (first|(refine hc2 _ _ (fun hq=>?_) (fun hq=>?_) <;> conv=>whnf)|(refine hc3 _ _ (fun hw=>?_) (fun hw=>?_) <;> conv=>whnf)|(refine hc4 hq.2.1 _ _ (fun hr=>?_) (fun hr=>?_) <;> conv=>whnf)|((first|refine EPrim.ixsM rfl hs' rfl (show (i:Int)-1=((i-1:Nat):Int) by omega) (by omega) hd2 ?_|refine nq23 hs' hlt hd' ?_|refine ETake.eq (cs:=[.int .i64 n,.int .u8 (k:Int),.int .i64 a,.int .i64 m,dv,tv,qv,av]) rfl ?_|refine nq22 ?_|refine nq7 ?_|refine nq8 ?_|refine nq12 ?_|refine nq13 ?_|refine ⟨rfl,?_⟩);conv=>whnf)|refine nq1 ?_ ?_|refine nq2 ?_ ?_|refine nq3 ?_ ?_|(intro _;first|omega|conv=>whnf))
    all_goals first
     | exact hN (fun q=>hq q.1) _
     | exact hN (fun q=>by have:=q.2.1 h0 _ hx';dsimp only at this;omega) _
     | exact hN (fun q=>q.2.2.elim (fun w=>hwt.2 w hw) hr) _
     | exact ⟨hlt,hT ⟨hq,fun _ x hx2=>by rw [hx'] at hx2;cases hx2;dsimp only;omega,.inr hr⟩,Abs.tells (rs:=[0]) .a⟩
     | exact ⟨hlt,hT ⟨hq,fun _ x hx2=>by rw [hx'] at hx2;cases hx2;dsimp only;omega,.inl (hwt.1 hw)⟩,Abs.tells (rs:=[0]) .a⟩
   ·conv=>whnf
    repeat' (first|(refine hc2 _ _ (fun hq=>?_) (fun hq=>?_) <;> conv=>whnf)|(refine hc3 _ _ (fun hw=>?_) (fun hw=>?_) <;> conv=>whnf)|(refine hc4 hq.2.1 _ _ (fun hr=>?_) (fun hr=>?_) <;> conv=>whnf)|((first|refine nq23 hs' hlt hd' ?_|refine ETake.eq (cs:=[.int .i64 n,.int .u8 (k:Int),.int .i64 a,.int .i64 m,dv,tv,qv,av]) rfl ?_|refine nq22 ?_|refine nq7 ?_|refine nq12 ?_|refine nq13 ?_|refine ⟨rfl,?_⟩);conv=>whnf)|refine nq1 ?_ ?_|refine nq3 ?_ ?_|(intro _;first|omega|conv=>whnf))
    all_goals first
     | exact hN (fun q=>hq q.1) _
     | exact hN (fun q=>q.2.2.elim (fun w=>hwt.2 w hw) hr) _
     | exact ⟨hlt,hT ⟨hq,fun h=>absurd h h0,.inr hr⟩,Abs.tells (rs:=[0]) .a⟩
     | exact ⟨hlt,hT ⟨hq,fun h=>absurd h h0,.inl (hwt.1 hw)⟩,Abs.tells (rs:=[0]) .a⟩
  ·conv=>whnf
   repeat' (first|refine nq1 ?_ ?_|(intro _;first|omega|conv=>whnf))
   exact t ⟨h8,fun k hk=>hI k (by omega)⟩ _
 ·have hcf:=cfg_n h103 hc hM
  conv=>whnf
  repeat' (first|(refine hcf _ _ ?_;conv=>whnf)|refine nq6 ?_ ?_|(intro _;first|omega|conv=>whnf))
  exact f (fun q=>hM q.1) _
def zLv:Lv:=⟨0,0,0,false,false,false⟩
def lstX (L:List Lv) (s:Int):Lv:=if 0≤lastI L s L.length then (L[(lastI L s L.length).toNat]?).getD zLv else zLv
def lstB (L:List Lv) (s:Int):Bool:=decide (0≤lastI L s L.length)
def mlsF:Fn (Dv×Int×Unit):=⟨.g dvC (.v i64C .nil),fun _=>True,fun x=>.tup [.agg (lstX x.1.2.2.2.2.1.2.2.2.2 x.2.1).c,.bool (lstB x.1.2.2.2.2.1.2.2.2.2 x.2.1)]⟩
def code58:AC:=match a94 with|.mk c _=>c
def asg58:AC:=match rngIn code58 with|some (a,_)=>a|none=>.skip
def body58:AC:=match rngIn code58 with|some (_,b)=>b|none=>.skip
noncomputable def tm58:AT:=ofL [(3,.ptr 0 0),(4,.ptr 1 0),(5,.ptr 2 0),(11,.fn 252 [] [.ptr 3 0])]
theorem mlsF_ok (hE:EM P e) (h111:Inl e 177 code159 [.tmp 2]):OvOk P 94 mlsF.O:=by
 refine Fn.mk_ok g94.b ?_
 rintro ⟨⟨c,bk,⟨ev,lo,sp,po,dn,nl,br⟩,hs,⟨ag,sq,tl,us,L⟩,fs,nx,so⟩,s,_⟩ _ ⟨_,_,rfl,hd,_,_,rfl,⟨e1,z1⟩,rfl⟩ -
 cases e1
 obtain ⟨hv,lv,fv,rfl,⟨ho,o1,o2,o3,o4,o5,o6,o7,o8,oN⟩,hH,hL,hF⟩:=dvw hd
 obtain ⟨ls,hs2,hl2,hn2⟩:=hL.lv
 have hvf:=hL.hf
 have hcl:=hL.cell
 refine ⟨rfl,C.of_G hE g94 ?_⟩
 have fin:∀ st x b,lstX L s=x->lstB L s=b->Frz st (.tup [.agg x.c,.bool b]) (mlsF.out ((c,bk,(ev,lo,sp,po,dn,nl,br),hs,(ag,sq,tl,us,L),fs,nx,so),s,())):=by
  rintro st x b rfl rfl;exact .plain _ rfl
 generalize mlsF.out _=O at fin ⊢
 unfold lstX lstB at fin
 change VW P e 0 _ (initT [_,.int .i64 s] 0 .lf) St0 none [] _
 conv=>whnf
 repeat' (first|(refine stuckB (by show Nat.beq (lenL (cellsOf lv)) 1=true;rw [hcl];rfl) ?_;rw [hcl];conv=>whnf)|(refine ESc.inl h111 ?_;conv=>whnf)|fail)
 refine W.abs [(3,.ptr 0 0),(4,.ptr 1 0),(5,.ptr 2 0),(11,.fn 252 [] [.ptr 3 0])] [.row 3 [.int .i64 s],.row 186 zLv.c,.row 4 [.bool false],.row 40 [lv]] [1,2,3,4] ⟨by decide,⟨r9,r9,r9,r9,trivial⟩,⟨r9,r9,r9,⟨?_,?_⟩,trivial⟩⟩ ?_
 ·show (bd _ lv && true)=true;rw [hf_bd _ hvf];rfl
 ·show _=some (AObj.row 40 [mapV _ lv]);rw [hf_mapV _ hvf];rfl
 refine W.rngI (f:=252) (first:=[]) (cap:=[.ptr 3 0]) g252.b rfl ?_ ?_
 ·intro q hq
  have hq:q<4:=hq
  rcases q with _|_|_|_|q
  ·exact .tmp 3 (.ptr 0 0) rfl rfl
  ·exact .tmp 4 (.ptr 1 0) rfl rfl
  ·exact .tmp 5 (.ptr 2 0) rfl rfl
  ·exact .tmp 11 (.fn 252 [] [.ptr 3 0]) rfl rfl
  ·omega
 show C1 P 252 [.yld 5,.ptr 3 0] (allocs St0 [.row 3 [.int .i64 s],.row 186 zLv.c,.row 4 [.bool false],.row 40 [lv],.defd,.loop .ready none 0 tm58 [12,13] asg58 body58 4]) (fun _ s'=>RngOut 5 [4] tm58 s' _)
 refine C1.of_G hE g252 ?_;conv=>whnf
 refine nq21 hs2 ?_;conv=>whnf
 repeat' (first|(refine nq8 ?_;conv=>whnf)|fail)
 refine W.loopK (α:=Nat) (fun j=>[(0,.yld 5),(1,.ptr 3 0),(3,.int .i64 ((j:Int)-1))]) (fun _=>[.row 3 [.int .i64 s],.row 186 zLv.c,.row 4 [.bool false],.row 40 [lv],.defd,.loop .ready none 0 tm58 [12,13] asg58 body58 4]) (fun j=>j)
  (fun j=>j≤L.length∧lastI L s L.length=lastI L s j) L.length [0,1,2,3,4,5] ⟨Nat.le_refl _,rfl⟩ ?_ ?_
 ·refine ⟨rfl,by decide,⟨r9,r9,r9,trivial⟩,⟨r9,r9,r9,⟨?_,?_⟩,r9,r9,trivial⟩⟩
  ·show (bd _ lv && true)=true;rw [hf_bd _ hvf];rfl
  ·show _=some (AObj.row 40 [mapV _ lv]);rw [hf_mapV _ hvf];rfl
 rintro j ⟨hj,hh⟩
 refine vs_sound hE ?_;conv=>whnf
 refine EPrim.geq2 rfl rfl (fun h=>?_) (fun h=>?_) <;> conv=>whnf
 ·obtain ⟨i,rfl⟩:∃ i,j=i+1:=⟨j-1,by omega⟩
  have hlt:i<L.length:=by omega
  obtain ⟨sq',st',bl',pa,su,ho',r,hx,hx',hd2⟩:=hn2 i hlt
  rw [show ((i+1:Nat):Int)-1=(i:Int) by omega]
  replace hh:lastI L s L.length=if L[i]?.map Lv.stripe=some s then (i:Int) else lastI L s i:=hh
  rw [hx] at hh
  replace hh:lastI L s L.length=if st'=s then (i:Int) else lastI L s i:=by
   rw [hh]
   show (if some st'=some s then (i:Int) else _)=_
   simp only [Option.some.injEq]
  refine nq23 hs2 hlt hd2 ?_;conv=>whnf
  refine ETake.eq (cs:=[.int .u32 sq',.int .i64 st',.int .i64 bl',.bool pa,.bool su,.bool ho']) rfl ?_;conv=>whnf
  refine ERound.mk ?_
  by_cases hse:st'=s
  ·subst hse
   rw [if_pos rfl] at hh
   rw [hh,if_pos (by omega),Int.toNat_natCast,hx,decide_eq_true (by omega)] at fin
   conv=>whnf
   repeat' (first|(refine nq13 ?_;conv=>whnf)|refine nq5 ?_ ?_|(intro _;first|omega|conv=>whnf))
   exact fin _ _ _ rfl rfl
  ·rw [if_neg hse] at hh
   conv=>whnf
   repeat' (first|((first|refine nq8 ?_|refine nq12 ?_|refine ⟨rfl,?_⟩);conv=>whnf)|refine nq5 ?_ ?_|(intro _;first|omega|conv=>whnf))
   refine ⟨i,⟨by omega,hh⟩,by omega,[0,1,2,3,4,5],rfl,by decide,⟨r9,r9,r9,trivial⟩,⟨r9,r9,r9,⟨?_,?_⟩,r9,r9,trivial⟩⟩
   ·show (bd _ lv && true)=true;rw [hf_bd _ hvf];rfl
   ·show _=some (AObj.row 40 [mapV _ lv]);rw [hf_mapV _ hvf];rfl
 ·have:j=0:=by omega
  subst this
  rw [hh] at fin
  conv=>whnf
  exact fin _ _ _ rfl rfl
def memN (c:Cfg) (w k:Int):Int:=(c.members-1-w % c.members+1+k) % c.members
def sptN (c:Cfg) (b:Int):Int:=memN c (b / c.chunk / (c.members-1)) (plK c b)
noncomputable def sptF:Fn (Cfg×Int×Unit):=⟨.g cfgC (.v i64C .nil),fun x=>x.1.may∧0≤x.2.1∧x.2.1<blocksN x.1,fun x=>.tup [.agg [.int .i64 (plS x.1 x.2.1),.int .i64 (plK x.1 x.2.1),.int .i64 (sptN x.1 x.2.1)],.int .i64 0]⟩
def cd90:AC:=match a74 with|.mk c _=>c
theorem sptF_ok (hE:EM P e) (h41:Con e 72 blsF.O) (h89:Inl e 73 cd89 [.tmp 4,.tmp 5]) (h90:Inl e 74 cd90 [.tmp 4]) (h99:Inl e 149 cd99 [.tmp 2]):OvOk P 20 sptF.O:=by
 refine Fn.mk_ok g20.b ?_
 rintro ⟨c,b,_⟩ _ ⟨_,_,rfl,⟨rfl,hc⟩,_,_,rfl,⟨e1,z1⟩,rfl⟩ ⟨hM,hb⟩
 cases e1
 refine ⟨rfl,C.of_G hE g20 ?_⟩
 dsimp only at hM hb hc
 have hbl:∀ (Q:AV->St->Prop) s,Q (.tup [.int .i64 (blocksN c),.int .i64 0]) s->ESc e 72 [.agg c.c] s Q:=fun Q s k=>Fn.u (F:=blsF) h41 (c,()) ⟨_,_,rfl,⟨rfl,hc⟩,rfl⟩ hM k
 have hmm:=may_mul hM
 have hpl:=pl_ok hM hb
 have fin:∀ st x y z,x=plS c b->y=plK c b->z=sptN c b->Frz st (.tup [.agg [.int .i64 x,.int .i64 y,.int .i64 z],.int .i64 0]) (sptF.out (c,b,())):=by
  rintro st x y z rfl rfl rfl;exact .plain _ rfl
 generalize sptF.out _=O at fin ⊢
 unfold sptN memN at fin
 unfold plS plK at fin hpl
 have hM':=hM
 unfold Cfg.may at hM'
 have hd0:=Int.ediv_nonneg hb.1 (show 0≤c.chunk by omega)
 have hd1:b / c.chunk≤b:=Int.ediv_le_self _ hb.1
 have hr0:=Int.emod_nonneg b (show c.chunk≠0 by omega)
 have hr1:=Int.emod_lt_of_pos b (show 0<c.chunk by omega)
 have he0:=Int.ediv_nonneg hd0 (show 0≤c.members-1 by omega)
 have he1:b / c.chunk / (c.members-1)≤b / c.chunk:=Int.ediv_le_self _ hd0
 have hs0:=Int.emod_nonneg (b / c.chunk) (show c.members-1≠0 by omega)
 have hs1:=Int.emod_lt_of_pos (b / c.chunk) (show 0<c.members-1 by omega)
 have hw0:=Int.emod_nonneg (b / c.chunk / (c.members-1)) (show c.members≠0 by omega)
 have hw1:=Int.emod_lt_of_pos (b / c.chunk / (c.members-1)) (show 0<c.members by omega)
 have hpm:=mul_small (a:=b / c.chunk / (c.members-1)) (b:=c.chunk) (by omega) (by omega)
 generalize blocksN c=B at *
 have hsum:-9223372036854775808≤b / c.chunk / (c.members-1)*c.chunk+b % c.chunk∧b / c.chunk / (c.members-1)*c.chunk+b % c.chunk≤9223372036854775807:=by
  have h1:b / c.chunk / (c.members-1)*c.chunk≤1000*8:=Int.mul_le_mul (by omega) (by omega) (by omega) (by decide)
  have h2:0≤b / c.chunk / (c.members-1)*c.chunk:=Int.mul_nonneg he0 (by omega)
  omega
 change VW P e 0 _ (initT [.agg c.c,.int .i64 b] 0 .lf) St0 none [] _
 conv=>whnf
 repeat' (first|((first|refine hbl _ _ ?_|refine ESc.inl h89 ?_|refine ESc.inl h90 ?_|refine ESc.inl h99 ?_|refine EPrim.quoN rfl rfl (by omega) ?_|refine EPrim.remN rfl rfl (by omega) ?_|refine EPrim.mulS rfl rfl hpm ?_|refine nq7 ?_|refine nq8 ?_|refine ⟨rfl,?_⟩);conv=>whnf)|refine nq1 ?_ ?_|refine nq4 ?_ ?_|refine nq6 ?_ ?_|(intro _;first|omega|conv=>whnf))
 exact fin _ _ _ _ rfl rfl rfl
def spC:Ce (Int×Int×Int):=i64C.pr (i64C.pr i64C)
def cd109:AC:=match a175 with|.mk c _=>c
def hl1Ok (s:(Int×Int×Int)×Unit) (xs:List Hd):Prop:=∀ h ∈ xs,0≤s.1.2.1∧s.1.2.1<h.2.2.1.length
def hl1P (s:(Int×Int×Int)×Unit) (h:Hd):Prop:=h.1=s.1.1∧h.2.2.2.1≤1∧h.2.2.1[s.1.2.1.toNat]?=some true
noncomputable def ix109:Fn (List Hd×((Int×Int×Int)×Unit)×Unit):=ixF hdC 175 (.p spC .nil) hl1Ok hl1P
theorem call109 (h109:Inl e 175 cd109 [.tmp 3]):CallP e hdC AV.agg 175 (.p spC .nil) hl1Ok hl1P:=by
 rintro ⟨⟨s,k,m⟩,_⟩ q xs ⟨st,bl,di,ph,de,sq⟩ l ⟨_,_,rfl,⟨_,_,rfl,⟨rfl,-⟩,_,_,rfl,⟨rfl,-⟩,rfl,-⟩,rfl⟩ hok hmem hx Q t f
 have hk:=hok _ hmem
 obtain ⟨bv,dv,rfl,h1,h2,h3,h4,-⟩:=hd_of hx
 obtain ⟨ds,hs',hl',hn'⟩:=h3.nth
 dsimp only at hk
 obtain ⟨g,_,l',hg,rfl,hd'⟩:=hn' k.toNat (by omega)
 unfold hl1P at t f
 dsimp only at t f
 rw [hg] at t f
 refine ECall.inl h109.O h109.G ?_
 change VE e _ (initT [.agg [.int .i64 st,bv,dv,.int .u8 (ph:Int),.bool de,.int .u32 sq],.fp [.int .i64 s,.int .i64 k,.int .i64 m]] 0 .lf) _ none [] _
 cases g
 all_goals
  conv=>whnf
  repeat' (first|((first|refine nq22 ?_|refine EPrim.ixsM rfl hs' rfl (show k=(k.toNat:Nat) by omega) (by omega) hd' ?_);conv=>whnf)|refine nq2 ?_ ?_|refine nq5 ?_ ?_|(intro _;first|omega|conv=>whnf))
  all_goals first
   | exact t ⟨by omega,by omega,rfl⟩ _
   | exact f (fun q=>by have:=q.1;omega) _
   | exact f (fun q=>by have:=q.2.1;omega) _
   | exact f (fun q=>nomatch q.2.2) _
theorem held_ex {hs:List Hd}{b:Int}(hsh:shB c hs):heldAt c hs b↔∃ h ∈ hs,h.1=plS c b∧h.2.2.2.1≤1∧h.2.2.1[(plK c b).toNat]?=some true:=by
 unfold heldAt
 constructor
 ·rintro ⟨h0,h1⟩
  rw [← idx_pl] at h0 h1
  have hlt:=idxI_lt (fun h:Hd=>h.1=plS c b) hs
  obtain ⟨x,hx⟩:∃ x,hs[(idxI (fun h:Hd=>h.1=plS c b) hs).toNat]?=some x:=⟨_,List.getElem?_eq_getElem (by omega)⟩
  refine ⟨x,List.mem_of_getElem? hx,?_,h1 x hx⟩
  classical
  unfold idxI at hx h0
  split at hx
  ·rename_i i hi
   have:=List.findIdx?_eq_some_iff_getElem.1 hi
   obtain ⟨h2,h3,-⟩:=this
   rw [Int.toNat_natCast,List.getElem?_eq_getElem h2] at hx
   cases hx
   simpa using h3
  ·rename_i hi
   rw [hi] at h0
   exact absurd h0 (by decide)
 ·rintro ⟨x,hx,h1,h2⟩
  obtain ⟨i,hi⟩:=List.getElem?_of_mem hx
  have hil:=(List.getElem?_eq_some_iff.1 hi).1
  have hp:plI hs (plS c b)=i:=plI_some hi h1 fun j hj g hg e=>(hsh.1 i hil x hi).2 j hj g hg (by rw [e,h1])
  rw [hp]
  refine ⟨by omega,fun h hh=>?_⟩
  rw [Int.toNat_natCast,hi] at hh
  cases hh
  exact h2
noncomputable def mhlF:Fn (Dv×Unit):=bF (.g dvC .nil) (fun x=>x.1.1.may∧shB x.1.1 x.1.2.2.2.1∧flsB x.1.1 x.1.2.2.2.2.2.1) fun x=>heldP x.1.1 x.1.2.2.2.1 x.1.2.2.2.2.2.1
set_option maxHeartbeats 2000000 in
theorem mhlF_ok (hE:EM P e) (h42:Con e 20 sptF.O) (h55:Inl e 91 cn55 [.tmp 4]) (h110:Con e 176 (relS (capR ix109.R))):OvOk P 89 mhlF.O:=by
 refine bF_ok hE g89 ?_
 rintro ⟨⟨c,bk,⟨ev,lo,sp,po,dn,nl,br⟩,hs,⟨ag,sq,tl,us,L⟩,fs,nx,so⟩,_⟩ _ ⟨_,_,rfl,hd,rfl⟩ ⟨hM,hSh,hFs⟩ K t f
 obtain ⟨hv,lv,fv,rfl,ho,hH,hL,hF⟩:=dvw hd
 have hrow:=dvC.hf hd
 obtain ⟨ks,hs2,hl2,hn2⟩:=hF.nth
 have hfv:=hF.hf
 dsimp only at t f hM hSh hFs
 have hsp:∀ b,0≤b∧b<blocksN c->∀ (Q:AV->St->Prop) s',Q (.tup [.agg [.int .i64 (plS c b),.int .i64 (plK c b),.int .i64 (sptN c b)],.int .i64 0]) s'->ESc e 20 [.agg c.c,.int .i64 b] s' Q:=fun b hb Q s' k=>Fn.u (F:=sptF) h42 (c,b,()) ⟨_,_,rfl,⟨rfl,ho.1⟩,_,_,rfl,⟨rfl,i64_wf (show i64B b by have:=may_mul hM;unfold i64B;omega)⟩,rfl⟩ ⟨hM,hb.1,hb.2⟩ k
 have hsn:∀ b,0≤b∧b<blocksN c->i64B (sptN c b):=fun b hb=>by
  unfold Cfg.may at hM
  unfold sptN memN
  have h1:=Int.emod_nonneg (c.members-1-b / c.chunk / (c.members-1) % c.members+1+plK c b) (show c.members≠0 by omega)
  have h2:=Int.emod_lt_of_pos (c.members-1-b / c.chunk / (c.members-1) % c.members+1+plK c b) (show 0<c.members by omega)
  unfold i64B;omega
 have hcn:∀ b,0≤b∧b<blocksN c->∀ r (Q:AV->St->Prop) s',s'.get r=some (.row 64 [.int .i64 (plS c b),.int .i64 (plK c b),.int .i64 (sptN c b)])->(heldAt c hs b->Q (.bool true) s')->(¬heldAt c hs b->Q (.bool false) s')->ESc e 91 [hv,.fn 175 [] [.ptr r 0]] s' Q:=fun b hb r Q s' hr y n=>by
  have hpl:=pl_ok hM hb
  have hmm:=may_mul hM
  have hM':=hM
  unfold Cfg.may at hM'
  have w1:=i64_wf (show i64B (plS c b) by unfold i64B;omega)
  have w2:=i64_wf (show i64B (plK c b) by unfold i64B;omega)
  have hok:hl1Ok ((plS c b,plK c b,sptN c b),()) hs:=fun h hh=>by
   obtain ⟨i,hi⟩:=List.getElem?_of_mem hh
   have:=(hSh.1 i (List.getElem?_eq_some_iff.1 hi).1 h hi).1
   obtain ⟨st,bl,di,ph,de,sq⟩:=h
   unfold hdB at this
   have:=this.2.2.1
   dsimp only
   omega
  refine cnt55 h55 (p:=hl1P ((plS c b,plK c b,sptN c b),())) (xs:=hs) (fun Q k=>@ESc.cap _ ix109 e 176 s' Q h110 hv 175 [.ptr r 0] [.fp [.int .i64 (plS c b),.int .i64 (plK c b),.int .i64 (sptN c b)]] (hs,((plS c b,plK c b,sptN c b),()),()) ⟨_,_,rfl,⟨_,rfl,hH⟩,_,_,rfl,⟨_,_,rfl,⟨[_],_,rfl,⟨rfl,w1⟩,[_],_,rfl,⟨rfl,w2⟩,rfl,i64_wf (hsn b hb)⟩,rfl⟩,rfl⟩ hok (.cons ⟨r,64,_,rfl,rfl,hr,rfl⟩ .nil) rfl k) (fun q=>y ((held_ex hSh).2 q)) fun q=>n fun h=>q ((held_ex hSh).1 h)
 conv=>whnf
 repeat' (first|(refine nq21 hs2 ?_;conv=>whnf)|fail)
 refine W.up hE fs.length (fun i=>[(1,.ptr 0 0),(11,fv),(12,.int .i64 (fs.length:Int)),(13,.int .i64 (i:Int))]) (fun _=>[.row 45 (c.c++[.bool bk,.int .u32 ev,.int .i64 lo,.bool sp,.int .i64 po,.int .i64 dn,.bool nl,.bool br,hv,.int .u32 ag,.int .u32 sq,.int .i64 tl,.int .i64 us,lv,fv,.int .i64 nx,.bool so])]) (fun i=>∀ j<i,∀ f,fs[j]?=some f->heldF1 c hs f) (fun k h=>by omega) (Abs.tells (rs:=[0]) .a) ?_
 intro i hi hI
 by_cases hlt:i<fs.length
 ·obtain ⟨⟨n,⟨k,a,m,d⟩,st,sqs,da⟩,_,r,hx,hxr,hd'⟩:=hn2 i hlt
  have hfr:=ftC.hf hxr
  obtain ⟨ev',tv,qv,av,rfl,p1,p2,p3,p4,g1,g2,g3,g4⟩:=fl_of hxr
  obtain ⟨ts,hs3,hl3,hn3⟩:=g2.nth
  have htv:=g2.hf
  have hef:=(hFs.2 i hlt _ hx).1
  conv=>whnf
  repeat' (first|((first|refine nq23 hs2 hlt hd' ?_|refine ETake.eq (cs:=[.int .i64 n,.int .u8 (k:Int),.int .i64 a,.int .i64 m,ev',tv,qv,av]) rfl ?_|refine nq21 hs3 ?_);conv=>whnf)|refine nq1 ?_ ?_|(intro _;first|omega|conv=>whnf))
  refine W.up hE st.length (fun k'=>[(1,.ptr 0 0),(4,.ptr 1 0),(11,fv),(12,.int .i64 (fs.length:Int)),(13,.int .i64 (i:Int)),(18,tv),(19,.int .i64 (st.length:Int)),(20,.int .i64 (k':Int))]) (fun _=>[.row 45 (c.c++[.bool bk,.int .u32 ev,.int .i64 lo,.bool sp,.int .i64 po,.int .i64 dn,.bool nl,.bool br,hv,.int .u32 ag,.int .u32 sq,.int .i64 tl,.int .i64 us,lv,fv,.int .i64 nx,.bool so]),.row 262 [.int .i64 n,.int .u8 (k:Int),.int .i64 a,.int .i64 m,ev',tv,qv,av]]) (fun k'=>∀ j<k',st[j]?=some 1->heldAt c hs (a+(j:Int))) (fun k h=>by omega) (Abs.tells (rs:=[0,1]) .a) ?_
  intro k' hk' hK
  by_cases hkt:k'<st.length
  ·obtain ⟨s1,_,r3,hx3,⟨rfl,hb3⟩,hd3⟩:=hn3 k' hkt
   have hb:=efl_blk hef hkt
   have hbm:=(may_mul hM).2
   have hsp:=hsp _ hb
   have hcn:=hcn _ hb
   have hN:s1=1->¬heldAt c hs (a+k')->∀ s,K (.bool false) s:=fun e h=>f fun q=>h (q i hlt _ hx k' hkt (by subst e;exact hx3))
   have hY:(s1=1->heldAt c hs (a+k'))->∀ j<k'+1,st[j]?=some 1->heldAt c hs (a+(j:Int)):=fun h=>all_succ hK fun e=>by rw [hx3] at e;cases e;exact h rfl
   clear t f hI hK hn2 hn3
   generalize plS c (a+k')=z1 at *
   generalize plK c (a+k')=z2 at *
   generalize sptN c (a+k')=z3 at *
   conv=>whnf
   repeat' (first|(refine hcn _ _ _ rfl (fun q=>?_) (fun q=>?_) <;> conv=>whnf)|((first|refine nq23 hs3 hkt hd3 ?_|refine nq22 ?_|refine hsp _ _ ?_|refine nq7 ?_|refine nq12 ?_|refine nq13 ?_|refine ⟨rfl,?_⟩);conv=>whnf)|refine nq1 ?_ ?_|refine nq5 ?_ ?_|(intro _;first|omega|conv=>whnf))
   all_goals first
    | exact hN (by omega) q _
    | exact ⟨hkt,hY (fun _=>q),Abs.tells (rs:=[0,1]) .a⟩
    | exact ⟨hkt,hY (fun e=>by omega),Abs.tells (rs:=[0,1]) .a⟩
  ·conv=>whnf
   repeat' (first|((first|refine nq7 ?_|refine ⟨rfl,?_⟩);conv=>whnf)|refine nq1 ?_ ?_|(intro _;first|omega|conv=>whnf))
   exact ⟨hlt,all_succ hI fun f e=>by rw [hx] at e;cases e;exact fun j hj=>hK j (by have:j<st.length:=hj;omega),Abs.tells (rs:=[0]) .a⟩
 ·conv=>whnf
  repeat' (first|refine nq1 ?_ ?_|(intro _;first|omega|conv=>whnf))
  exact t (fun j hj=>hI j (by omega)) _
end Go.AM
