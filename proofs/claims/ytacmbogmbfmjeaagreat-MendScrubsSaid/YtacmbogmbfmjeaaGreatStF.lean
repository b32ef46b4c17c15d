/-
 Functions of the program as the abstract machine reads them, and what is stated of them, checked by the kernel. No conditions.
-/
import Derived.Test.YtacmbogmbfmjeaaGreatStE
import Derived.Test.YtacmbogmbfmjeaaGreatStA
set_option linter.unusedVariables false
set_option linter.unusedSimpArgs false
set_option linter.unnecessarySimpa false
set_option maxRecDepth 100000
namespace Go.AM
attribute [local irreducible] W
open X
variable {e:Env}{c:Cfg}
theorem KC (h:Con e 40 stripesF.O) (hc:c.ok) (hM:c.may) (Q:AV→St→Prop) (s:St) (k:Q (.tup [.int .i64 (c.chunk*c.rows),.int .i64 0]) s):ESc e 40 [.agg c.c] s Q:=
 ESc.fam (e:=e) (k:=Q) (s:=s) stripesF h c hc (by unfold stripesF;dsimp only;rw [Zjj hM,Zjj hM]) k
theorem Uw (h:Con e 40 stripesF.O) (hc:c.ok) (hM:¬c.may) (Q:AV→St→Prop) (s:St) (k:Q (.tup [.int .i64 0,.int .i64 8]) s):ESc e 40 [.agg c.c] s Q:=
 ESc.fam (e:=e) (k:=Q) (s:=s) stripesF h c hc (by unfold stripesF;dsimp only;rw [Zjn hM,Zjn hM]) k
theorem PN (h:Con e 103 cfgF.O) (hc:c.ok) (hM:c.may) (Q:AV→St→Prop) (s:St) (k:Q (.int .i64 0) s):ESc e 103 [.agg c.c] s Q:=
 ESc.fam (e:=e) (k:=Q) (s:=s) cfgF h c hc (by unfold cfgF;dsimp only;rw [Zjj hM]) k
theorem PO (h:Con e 103 cfgF.O) (hc:c.ok) (hM:¬c.may) (Q:AV→St→Prop) (s:St) (k:Q (.int .i64 8) s):ESc e 103 [.agg c.c] s Q:=
 ESc.fam (e:=e) (k:=Q) (s:=s) cfgF h c hc (by unfold cfgF;dsimp only;rw [Zjn hM]) k
noncomputable def lossF:Fn (Cfg×Lo×Unit):=cF (.g cfgC (.g loC .nil)) (fun _=>True) fun x=>x.1.may∧DO x.1 x.2.1
theorem ZA (hE:EM P e) (h40:Con e 40 stripesF.O):OvOk P 39 lossF.O:=by
 refine Ic hE g39 ?_
 rintro ⟨c,⟨ev,lo,sp,po,dn,nl,br⟩,_⟩ _ ⟨_,_,rfl,⟨rfl,hc⟩,_,_,rfl,ho,rfl⟩-K t f
 obtain ⟨rfl,h1,h2,h3,h4⟩:=M9 ho
 dsimp only at t f hc
 by_cases hM:c.may
 ·have hs:=KC h40 hc hM
  replace t:=fun q=>t ⟨hM,q⟩
  replace f:=fun (q:¬DO c (ev,lo,sp,po,dn,nl,br))=>f fun q'=>q q'.2
  have hmm:=BJ hM
  unfold DO AG at t f
  unfold AG at hmm
  unfold Ad Bm at *
  dsimp only at t f
  change VW P e 0 _ (Al [.agg c.c,_] 0 .lf) St0 none [] _
  cases sp
  all_goals
   conv=>whnf
   repeat' (first|(refine hs _ _ ?_;conv=>whnf)|((first|refine w1 rfl rfl ?_ ?_|refine w3 rfl rfl ?_ ?_|refine w4 rfl rfl ?_ ?_|refine w5 rfl rfl ?_ ?_|refine w6 rfl rfl ?_ ?_) <;> intro _ <;> first|(exfalso;omega)|(conv=>whnf))|((first|refine w12 rfl ?_|refine w13 rfl ?_);conv=>whnf)|fail)
   all_goals first
    | exact f (by simp;omega) _
    | exact t (by simp;omega) _
 ·have hs:=Uw h40 hc hM
  conv=>whnf
  repeat' (first|(refine hs _ _ ?_;conv=>whnf)|((refine w6 rfl rfl ?_ ?_) <;> intro _ <;> first|(exfalso;omega)|(conv=>whnf))|fail)
  exact f (fun q=>hM q.1) _
open Classical in
noncomputable def misF:Fn (Cfg×Lo×Int×Unit):=⟨.g cfgC (.g loC (.v i64C .nil)),fun x=>x.1.ok,fun x=>if x.1.may∧DO x.1 x.2.1 then (if 0≤x.2.2.1∧x.2.2.1<AG x.1 then .tup [.int .i64 (Ed x.2.1 x.2.2.1),.int .i64 0] else .tup [.int .i64 0,.int .i64 2]) else .tup [.int .i64 0,.int .i64 8]⟩
theorem Zb6 (hE:EM P e) (h39:Con e 39 lossF.O) (h40:Con e 40 stripesF.O):OvOk P 12 misF.O:=by
 refine B2 g12.b ?_
 rintro ⟨c,⟨ev,lo,sp,po,dn,nl,br⟩,s,_⟩ _ ⟨_,_,rfl,⟨rfl,hc⟩,ol,_,rfl,ho,_,_,rfl,⟨e1,z1⟩,rfl⟩ -
 cases e1
 have hlc:=fun (Q:AV→St→Prop) s a b=>@cF.u _ _ _ _ e 39 s Q _ h39 (c,(ev,lo,sp,po,dn,nl,br),()) ⟨_,_,rfl,⟨rfl,hc⟩,_,_,rfl,ho,rfl⟩ trivial a b
 obtain ⟨rfl,h1,h2,h3,h4⟩:=M9 ho
 have hs64:=Cq z1
 have hh:AM.hf (misF.out (c,(ev,lo,sp,po,dn,nl,br),s,()))=true:=by
  unfold misF;dsimp only;split
  ·split <;> rfl
  ·rfl
 refine ⟨hh,C.of_G hE g12 ?_⟩
 have fin:∀ st v,v=misF.out (c,(ev,lo,sp,po,dn,nl,br),s,())→Frz st v (misF.out (c,(ev,lo,sp,po,dn,nl,br),s,())):=by
  rintro st v rfl;exact .plain _ hh
 clear hh
 generalize hO:misF.out (c,(ev,lo,sp,po,dn,nl,br),s,())=O at fin ⊢
 unfold misF Ed at hO
 dsimp only at hO hlc hc
 change VW P e 0 _ (Al [.agg c.c,_,.int .i64 s] 0 .lf) St0 none [] _
 by_cases hA:c.may∧DO c (ev,lo,sp,po,dn,nl,br)
 ·rw [Zjj hA] at hO
  replace hlc:∀ (Q:AV→St→Prop) st,Q (.int .i64 0) st→ESc e 39 _ st Q:=fun Q st q=>hlc Q st (fun _=>q) fun n=>absurd hA n
  have hs:=KC h40 hc hA.1
  unfold AG at hO
  by_cases hB:0≤s∧s<c.chunk*c.rows
  ·rw [Zjj hB] at hO
   cases sp
   ·rw [Zjn (fun h=>Bool.false_ne_true h.1)] at hO
    conv=>whnf
    repeat' (first|(refine hlc _ _ ?_;conv=>whnf)|(refine hs _ _ ?_;conv=>whnf)|((first|refine w1 rfl rfl ?_ ?_|refine w4 rfl rfl ?_ ?_|refine w6 rfl rfl ?_ ?_) <;> intro _ <;> first|(exfalso;omega)|(conv=>whnf))|fail)
    exact fin _ _ hO
   ·by_cases hp:s<po
    ·rw [Zjj ⟨rfl,hp⟩] at hO
     conv=>whnf
     repeat' (first|(refine hlc _ _ ?_;conv=>whnf)|(refine hs _ _ ?_;conv=>whnf)|((first|refine w1 rfl rfl ?_ ?_|refine w4 rfl rfl ?_ ?_|refine w6 rfl rfl ?_ ?_) <;> intro _ <;> first|(exfalso;omega)|(conv=>whnf))|fail)
     exact fin _ _ hO
    ·rw [Zjn (fun h=>hp h.2)] at hO
     conv=>whnf
     repeat' (first|(refine hlc _ _ ?_;conv=>whnf)|(refine hs _ _ ?_;conv=>whnf)|((first|refine w1 rfl rfl ?_ ?_|refine w4 rfl rfl ?_ ?_|refine w6 rfl rfl ?_ ?_) <;> intro _ <;> first|(exfalso;omega)|(conv=>whnf))|fail)
     exact fin _ _ hO
  ·rw [Zjn hB] at hO
   conv=>whnf
   repeat' (first|(refine hlc _ _ ?_;conv=>whnf)|(refine hs _ _ ?_;conv=>whnf)|((first|refine w1 rfl rfl ?_ ?_|refine w4 rfl rfl ?_ ?_|refine w6 rfl rfl ?_ ?_) <;> intro _ <;> first|(exfalso;omega)|(conv=>whnf))|fail)
   all_goals exact fin _ _ hO
 ·rw [Zjn hA] at hO
  replace hlc:∀ (Q:AV→St→Prop) st,Q (.int .i64 8) st→ESc e 39 _ st Q:=fun Q st q=>hlc Q st (fun n=>absurd n hA) fun _=>q
  conv=>whnf
  repeat' (first|(refine hlc _ _ ?_;conv=>whnf)|((refine w6 rfl rfl ?_ ?_) <;> intro _ <;> first|(exfalso;omega)|(conv=>whnf))|fail)
  all_goals exact fin _ _ hO
def Zdw:AC:=match Nk with|.mk c _=>c
theorem Zed (h184:Inl e 184 Zdw [.tmp 2]):Es e bytC one 184 .nil (fun _ _=>True) (fun (_:Unit) b=>¬B8 b):=by
 rintro c q xs b l rfl _ _ ⟨u,rfl,hu⟩ Q y n
 obtain ⟨us,hus,hl,-⟩:=hu.nth
 unfold B8 at y n
 refine ECall.inl h184.O h184.G ?_;conv=>whnf
 repeat' (first|(refine Ac rfl hus ?_;conv=>whnf)|((refine w6 rfl rfl ?_ ?_) <;> intro _ <;> first|(exfalso;omega)|(conv=>whnf))|fail)
 all_goals first
  | exact y (by omega) _
  | exact n (by omega) _
noncomputable def ix184:Fn (List (List Nat)×Unit×Unit):=Cp bytC 184 .nil (fun _ _=>True) fun _ b=>¬B8 b
noncomputable def hdcF:Fn (Cfg×Hd×Unit):=cF (.g cfgC (.g hdC .nil)) (fun _=>True) fun x=>x.1.may∧Di x.1 x.2.1
set_option maxHeartbeats 2000000 in
theorem Zcj (hE:EM P e) (h40:Con e 40 stripesF.O) (h91:Inl e 91 V9 [.tmp 4]) (h142:Con e 142 (relS (BB ix184.R))):OvOk P 148 hdcF.O:=by
 refine Ic hE g148 ?_
 rintro ⟨c,⟨st,bl,di,ph,de,sq⟩,_⟩ _ ⟨_,_,rfl,⟨rfl,hc⟩,_,_,rfl,hh,rfl⟩-K t f
 obtain ⟨bv,dv,rfl,h1,h2,h3,h4,h5⟩:=Cf hh
 obtain ⟨bs,hs,hl,hn⟩:=h2.nth
 obtain ⟨ds,hs',hl',hn'⟩:=h3.nth
 have hrow:=hdC.hf hh
 dsimp only at t f hc
 have hidx:=fun (Q:AV→St→Prop) s k=>@GT _ ix184 e 142 s Q h142 bv 184 [] [] (bl,(),()) ⟨_,_,rfl,⟨_,rfl,h2⟩,_,_,rfl,rfl,rfl⟩ trivial .nil rfl k
 have hcn:=fun (Q:AV→St→Prop) s y n=>Zi0 (k:=Q) (s:=s) h91 (p:=fun b=>¬B8 b) (xs:=bl) (fun Q k=>hidx Q s k) y n
 change VW P e 0 _ (Al [.agg c.c,_] 0 .lf) St0 none [] _
 by_cases hM:c.may
 ·have hst:=KC h40 hc hM
  replace t:=fun q=>t ⟨hM,q⟩
  replace f:=fun (q:¬Di c (st,bl,di,ph,de,sq))=>f fun q'=>q q'.2
  have hmm:=BJ hM
  unfold Di AG at t f
  unfold AG at hmm
  unfold Cfg.may at hM
  unfold Ad Bm at *
  dsimp only at t f
  conv=>whnf
  repeat' (first|(refine hst _ _ ?_;conv=>whnf)|(refine Ac rfl hs ?_;conv=>whnf)|(refine Ac rfl hs' ?_;conv=>whnf)|(refine hcn _ _ (fun qs=>?_) (fun qs=>?_) <;> conv=>whnf)|((first|refine w1 rfl rfl ?_ ?_|refine w3 rfl rfl ?_ ?_|refine w4 rfl rfl ?_ ?_|refine w6 rfl rfl ?_ ?_) <;> intro _ <;> first|(exfalso;omega)|(conv=>whnf))|(refine w8 rfl rfl (by omega) ?_;conv=>whnf)|fail)
  all_goals try exact f (fun q=>by omega) _
  ·exact f (fun q=>by obtain ⟨b,hb,hn⟩:=qs;obtain ⟨k,hk⟩:=Zk6 hb;exact hn (q.2.2.2.2.1 k (Zjg.1 hk).1 b hk).1) _
  have hsz:∀ k b,bl[k]?=some b→B8 b:=fun k b hk=>Classical.byContradiction fun h=>qs ⟨b,Zj1 hk,h⟩
  have hM0:=c.members
  refine A0 hE di.length (fun i=>[(2,.ptr 0 0),(3,.ptr 1 0),(7,.bool ((di.take i).any id)),(58,dv),(59,.int .i64 (di.length:Int)),(60,.int .i64 (i:Int))]) (fun _=>[.row 24 c.c,.row 55 [.int .i64 st,bv,dv,.int .u8 (ph:Int),.bool de,.int .u32 sq]]) (fun i=>∀ k<i,di[k]?=some true→(bl[k]?.getD []).length≠0) (fun k h=>by omega) (Abs.tells (rs:=[0,1]) ⟨by decide,⟨r9,r9,r9,t9 h3.hf,r9,r9,trivial⟩,⟨⟨Ab rfl,by rw [Aa rfl];rfl⟩,⟨Ab hrow,by rw [Aa hrow];rfl⟩,trivial⟩⟩) ?_
  intro i hi hI
  have hdf:=h3.hf
  by_cases hlt:i<di.length
  ·obtain ⟨b,_,l,hb,⟨u,rfl,hu⟩,hd⟩:=hn i (by omega)
   obtain ⟨us,hus,hul,-⟩:=hu.nth
   obtain ⟨g,_,l',hg,rfl,hd'⟩:=hn' i hlt
   have hta:(di.take (i+1)).any id=((di.take i).any id || g):=by
    rw [List.take_add_one,hg,List.any_append];simp
   have hff:g=true→b.length=0→∀ s,K (.int .i64 8) s:=fun h1 h2=>f fun q=>(q.2.2.2.2.1 i (by omega) b hb).2 (by rw [hg,h1]) h2
   have htt:(g=true→b.length≠0)→∀ k<i+1,di[k]?=some true→(bl[k]?.getD []).length≠0:=fun h=>AK hI fun e=>by rw [hg] at e;rw [hb];exact h (Zkn e)
   have hil:i<bl.length:=by omega
   clear f t
   generalize (di.take i).any id=D at *
   rw [hta]
   cases g <;> cases D
   all_goals
    conv=>whnf
    repeat' (first|(refine Ai rfl hs rfl hil hd ?_;conv=>whnf)|(refine Ai rfl hs' rfl hlt hd' ?_;conv=>whnf)|(refine EHead.mk rfl ?_;conv=>whnf)|(refine Ac rfl hus ?_;conv=>whnf)|((first|refine w1 rfl rfl ?_ ?_|refine w5 rfl rfl ?_ ?_) <;> intro _ <;> first|(exfalso;omega)|(conv=>whnf))|((first|refine w7 rfl rfl (by omega) ?_|refine ⟨rfl,?_⟩);conv=>whnf)|fail)
    all_goals first
     | exact hff rfl (by omega) _
     | exact ⟨hlt,htt (fun h=>by first|exact absurd h Bool.false_ne_true|omega),Abs.tells (rs:=[0,1]) ⟨by decide,⟨r9,r9,r9,t9 h3.hf,r9,r9,trivial⟩,⟨⟨Ab rfl,by rw [Aa rfl];rfl⟩,⟨Ab hrow,by rw [Aa hrow];rfl⟩,trivial⟩⟩⟩
  ·obtain rfl:i=di.length:=by omega
   obtain ⟨b,_,l,hb,⟨u,rfl,hu⟩,hd⟩:=hn di.length (by omega)
   obtain ⟨us,hus,hul,-⟩:=hu.nth
   have hIb:∀ k<bl.length,∀ b,bl[k]?=some b→B8 b∧(di[k]?=some true→b.length≠0):=fun k hk b hb=>⟨hsz k b hb,fun e=>by
    have:=hI k (Zjg.1 e).1 e
    rw [hb] at this;exact this⟩
   rw [List.take_length]
   have hany:(di.any id=true)=(true ∈ di):=by simp
   have hany':di.any id=false→¬(true ∈ di):=fun h q=>by rw [← hany,h] at q;cases q
   rw [← hany] at t f
   rw [hb] at t f
   dsimp only [Option.getD_some] at t f
   have hm1:c.members-1=(di.length:Int):=by omega
   have hil:di.length<bl.length:=by omega
   have hpl:(bl.length:Int)=c.members:=by omega
   have hs0:0≤st∧st<c.chunk*c.rows:=by omega
   have hph:ph≤4:=by omega
   have hdl:(di.length:Int)=c.members-1:=by omega
   replace t:=fun q=>t ⟨hs0,hpl,hdl,hph,hIb,q⟩
   replace f:=fun (q:¬((ph=0→b.length=0∧sq=0)∧(0<ph→b.length≠0∧di.any id=true)∧(ph=1→sq=0)∧(de=true→di.any id=true∧ph≤1)))=>f fun q'=>q q'.2.2.2.2.2
   generalize di.any id=D at *
   clear hI hIb hsz hany hany'
   cases D <;> cases de
   all_goals
    conv=>whnf
    repeat' (first|(refine Cm rfl hs rfl hm1 hil hd ?_;conv=>whnf)|(refine EHead.mk rfl ?_;conv=>whnf)|(refine Ac rfl hus ?_;conv=>whnf)|((first|refine w1 rfl rfl ?_ ?_|refine w2 rfl rfl ?_ ?_|refine w3 rfl rfl ?_ ?_|refine w5 rfl rfl ?_ ?_|refine w6 rfl rfl ?_ ?_) <;> intro _ <;> first|(exfalso;omega)|(conv=>whnf))|((first|refine w8 rfl rfl (by omega) ?_|refine w12 rfl ?_|refine w13 rfl ?_|refine w15 rfl rfl ?_);conv=>whnf)|fail)
    all_goals first
     | exact t ⟨fun h=>by omega,fun h=>⟨by omega,by first|rfl|(exfalso;omega)⟩,fun h=>by omega,fun h=>by first|exact ⟨rfl,by omega⟩|cases h⟩ _
     | exact f (fun q=>by
      have q1:=q.1
      have q2:=q.2.1
      have q3:=q.2.2.1
      have q4:=q.2.2.2
      first
       | omega
       | exact Bool.false_ne_true (q2 (by omega)).2
       | exact Bool.false_ne_true (q4 rfl).1
       | (have:=(q4 rfl).2;omega)) _
     | fail
 ·have hst:=Uw h40 hc hM
  conv=>whnf
  repeat' (first|(refine hst _ _ ?_;conv=>whnf)|((refine w6 rfl rfl ?_ ?_) <;> intro _ <;> first|(exfalso;omega)|(conv=>whnf))|fail)
  exact f (fun q=>hM q.1) _
def Zdx:AC:=match Nl with|.mk c _=>c
theorem Pr (hs:List Hd) (s:Int):Ci (fun h:Hd=>h.1=s) hs=A6 hs s:=by
 by_cases h:∃ (i:Nat) (x:Hd),hs[i]?=some x∧x.1=s∧∀ j<i,∀ g:Hd,hs[j]?=some g→g.1≠s
 ·obtain ⟨i,x,h1,h2,h3⟩:=h
  rw [Ok h1 h2 h3,IG h1 h2 h3]
 ·have hn:∀ n:Nat,∀ j<n,∀ g:Hd,hs[j]?=some g→g.1≠s:=by
   intro n
   induction n with
   | zero=>intro j h;omega
   | succ n ih=>exact AK ih fun g hg he=>h ⟨n,g,hg,he,ih⟩
  rw [Ol fun j _=>hn (j+1) j (by omega),IF fun j _=>hn (j+1) j (by omega)]
theorem Zee (h183:Inl e 183 Zdx [.tmp 3]):Es e hdC AV.agg 183 (.p i64C .nil) (fun _ _=>True) (fun (c:Int×Unit) h=>h.1=c.1):=by
 rintro ⟨s,_⟩ q xs ⟨st,bl,di,ph,de,sq⟩ l ⟨_,_,rfl,⟨rfl,-⟩,rfl⟩ _ _ hx Q y n
 obtain ⟨bv,dv,rfl,-⟩:=Cf hx
 dsimp only at y n
 refine ECall.inl h183.O h183.G ?_;conv=>whnf
 repeat' (first|(refine EHead.mk rfl ?_;conv=>whnf)|((refine w5 rfl rfl ?_ ?_) <;> intro _ <;> first|(exfalso;omega)|(conv=>whnf))|fail)
 all_goals first
  | exact y (by assumption) _
  | exact n (by assumption) _
noncomputable def ix183:Fn (List Hd×(Int×Unit)×Unit):=Cp hdC 183 (.p i64C .nil) (fun _ _=>True) fun c h=>h.1=c.1
noncomputable def plaF:Fn (List Hd×Int×Unit):=⟨.v hdC.sl (.v i64C .nil),fun _=>True,fun x=>.int .i64 (A6 x.1 x.2.1)⟩
theorem Zbu (hE:EM P e) (h110:Con e 110 (relS (BB ix183.R))):OvOk P 144 plaF.O:=by
 refine B2 g144.b ?_
 rintro ⟨hs,s,_⟩ _ ⟨v,_,rfl,⟨_,e0,hL⟩,_,_,rfl,⟨e1,z1⟩,rfl⟩ -
 cases e0
 cases e1
 have hidx:=fun (Q:AV→St→Prop) st k r hr=>@GT _ ix183 e 110 st Q h110 v 183 [.ptr r 0] [.fp [.int .i64 s]] (hs,(s,()),()) ⟨_,_,rfl,⟨_,rfl,hL⟩,_,_,rfl,⟨_,_,rfl,⟨rfl,z1⟩,rfl⟩,rfl⟩ trivial (.cons ⟨r,3,_,rfl,rfl,hr,rfl⟩ .nil) rfl k
 have hout:∀ st,Frz st (ix183.out (hs,(s,()),())) (plaF.out (hs,s,())):=fun st=>by
  show Frz st (.int .i64 (Ci (fun h:Hd=>h.1=s) hs)) (.int .i64 (A6 hs s))
  rw [Pr];exact .plain _ rfl
 refine ⟨rfl,C.of_G hE g144 ?_⟩
 change VW P e 0 _ (Al [v,.int .i64 s] 0 .lf) St0 none [] _
 conv=>whnf
 repeat' (first|(refine hidx _ _ ?_ _ rfl;conv=>whnf)|fail)
 exact hout _
noncomputable def shcF:Fn (Cfg×List Hd×Unit):=cF (.g cfgC (.v hdC.sl .nil)) (fun _=>True) fun x=>x.1.may∧BX x.1 x.2.1
theorem Zbm (hE:EM P e) (h103:Con e 103 cfgF.O) (h144:Con e 144 plaF.O) (h148:Con e 148 hdcF.O):OvOk P 104 shcF.O:=by
 refine Ic hE g104 ?_
 rintro ⟨c,hs,_⟩ _ ⟨_,_,rfl,⟨rfl,hc⟩,v,_,rfl,⟨_,e0,hL⟩,rfl⟩-K t f
 cases e0
 dsimp only at t f hc hL
 have hvf:=hL.hf
 obtain ⟨cs,hs',hl,hn⟩:=hL.nth
 have hpl:=fun (xs:List Hd) (u:AV) (hu:Ls hdC xs u) (st:Int) (h:Ad st) (Q:AV→St→Prop) s k=>@Fn.u _ e 144 s Q plaF [u,.int .i64 st] h144 (xs,st,()) ⟨_,_,rfl,⟨_,rfl,hu⟩,_,_,rfl,⟨rfl,Bg h⟩,rfl⟩ trivial k
 have hhd:=fun (x:Hd) (l:List AV) (hx:hdC.r x l) (Q:AV→St→Prop) s a b=>@cF.u _ _ _ _ e 148 s Q [.agg c.c,.agg l] h148 (c,x,()) ⟨_,_,rfl,⟨rfl,hc⟩,_,_,rfl,hx,rfl⟩ trivial a b
 replace hpl:∀ (xs:List Hd) (u:AV) (hu:Ls hdC xs u) (st:Int) (h:Ad st) (Q:AV→St→Prop) s,Q (.int .i64 (A6 xs st)) s→ESc e 144 [u,.int .i64 st] s Q:=hpl
 change VW P e 0 _ (Al [.agg c.c,v] 0 .lf) St0 none [] _
 by_cases hM:c.may
 ·have hcf:=PN h103 hc hM
  replace t:=fun q=>t ⟨hM,q⟩
  replace f:=fun (q:¬BX c hs)=>f fun q'=>q q'.2
  replace hhd:=fun x l hx (Q:AV→St→Prop) s (a:Di c x→Q (.int .i64 0) s) (b:¬Di c x→Q (.int .i64 8) s)=>hhd x l hx Q s (fun q=>a q.2) (fun q=>b fun h=>q ⟨hM,h⟩)
  unfold BX at t f
  conv=>whnf
  repeat' (first|(refine hcf _ _ ?_;conv=>whnf)|(refine Ac rfl hs' ?_;conv=>whnf)|((first|refine w3 rfl rfl ?_ ?_|refine w6 rfl rfl ?_ ?_) <;> intro _ <;> first|(exfalso;omega)|(conv=>whnf))|fail)
  ·exact f (fun q=>by omega) _
  have hheads:(hs.length:Int)≤c.heads:=by assumption
  refine A0 hE hs.length (fun i=>[(1,v),(2,.ptr 0 0),(19,v),(20,.int .i64 (hs.length:Int)),(21,.int .i64 (i:Int))]) (fun _=>[.row 24 c.c]) (fun i=>∀ k<i,∀ h,hs[k]?=some h→Di c h∧∀ j<k,∀ g,hs[j]?=some g→g.1≠h.1) (fun k h=>by omega) (Abs.tells (rs:=[0]) ⟨by decide,⟨t9,r9,t9,r9,r9,trivial⟩,⟨⟨Ab rfl,by rw [Aa rfl];rfl⟩,trivial⟩⟩) ?_
  intro i hi hI
  by_cases hlt:i<hs.length
  ·obtain ⟨x,l,r,hx,hxr,hd⟩:=hn i hlt
   have hhd:=hhd x l hxr
   have hff:¬(Di c x∧∀ j<i,∀ g,hs[j]?=some g→g.1≠x.1)→∀ s,K (.int .i64 8) s:=fun h=>f fun q=>h (q.1 i hlt x hx)
   have htt:(Di c x∧∀ j<i,∀ g,hs[j]?=some g→g.1≠x.1)→∀ k<i+1,∀ h,hs[k]?=some h→Di c h∧∀ j<k,∀ g,hs[j]?=some g→g.1≠h.1:=fun h=>AK hI fun y e=>by rw [hx] at e;cases e;exact h
   have hpos:∀ st,(∀ j<i,∀ g,hs[j]?=some g→g.1≠st)→A6 (hs.take i) st=-1:=fun st h=>Ol fun j hj g hg=>by
    rw [Zj5] at hj
    rw [Zks,Zjj (by omega)] at hg
    exact h j (by omega) g hg
   have hpos2:∀ st,A6 (hs.take i) st<0→∀ j<i,∀ g,hs[j]?=some g→g.1≠st:=fun st h j hj g hg e=>by
    rw [← Pr] at h
    have:=idxI_iff (p:=fun h:Hd=>h.1=st) (l:=hs.take i).2 ⟨g,Zj1 (i:=j) (by rw [Zks,Zjj hj];exact hg),e⟩
    omega
   clear t f hI hn
   obtain ⟨st,bl,di,ph,de,sq⟩:=x
   obtain ⟨bv,dv,rfl,hst,-⟩:=Cf hxr
   dsimp only at hff htt
   conv=>whnf
   repeat' (first|(refine Ai rfl hs' rfl hlt hd ?_;conv=>whnf)|(refine Ay (cs:=[.int .i64 st,bv,dv,.int .u8 (ph:Int),.bool de,.int .u32 sq]) rfl ?_;conv=>whnf)|(refine hhd _ _ (fun q1=>?_) (fun q1=>?_) <;> conv=>whnf)|(refine NU rfl hL rfl rfl (Nat.le_of_lt hlt) (fun u hu=>?_);conv=>whnf)|(refine hpl (hs.take i) _ hu _ hst _ _ ?_;conv=>whnf)|((first|refine w1 rfl rfl ?_ ?_|refine w4 rfl rfl ?_ ?_|refine w6 rfl rfl ?_ ?_) <;> intro _ <;> first|(exfalso;omega)|(conv=>whnf))|((first|refine w7 rfl rfl (by omega) ?_|refine ⟨rfl,?_⟩);conv=>whnf)|fail)
   ·exact hff (fun q=>by have:=hpos _ q.2;omega) _
   ·refine ⟨hlt,htt ⟨q1,hpos2 _ (by omega)⟩,Abs.tells (rs:=[0]) ⟨by decide,⟨t9,r9,t9,r9,r9,trivial⟩,⟨⟨Ab rfl,by rw [Aa rfl];rfl⟩,trivial⟩⟩⟩
   ·exact hff (fun q=>q1 q.1) _
  ·conv=>whnf
   repeat' (first|((refine w1 rfl rfl ?_ ?_) <;> intro _ <;> first|(exfalso;omega)|(conv=>whnf))|fail)
   exact t ⟨fun k hk=>hI k (by omega),hheads⟩ _
 ·have hcf:=PO h103 hc hM
  conv=>whnf
  repeat' (first|(refine hcf _ _ ?_;conv=>whnf)|((refine w6 rfl rfl ?_ ?_) <;> intro _ <;> first|(exfalso;omega)|(conv=>whnf))|fail)
  exact f (fun q=>hM q.1) _
open Classical in
noncomputable def fndF:Fn (Cfg×List Hd×Int×Unit):=⟨.g cfgC (.v hdC.sl (.v i64C .nil)),fun _=>True,fun x=>if x.1.may∧BX x.1 x.2.1 then (if A6 x.2.1 x.2.2.1<0 then .tup [.int .i64 0,.int .i64 6] else .tup [.int .i64 (A6 x.2.1 x.2.2.1),.int .i64 0]) else .tup [.int .i64 0,.int .i64 8]⟩
theorem Zcv (hE:EM P e) (h104:Con e 104 shcF.O) (h144:Con e 144 plaF.O):OvOk P 97 fndF.O:=by
 refine B2 g97.b ?_
 rintro ⟨c,hs,s,_⟩ _ ⟨_,_,rfl,⟨rfl,hc⟩,v,_,rfl,⟨_,e0,hL⟩,_,_,rfl,⟨e1,z1⟩,rfl⟩ -
 cases e0
 cases e1
 dsimp only at hc hL
 have hpl:=fun (Q:AV→St→Prop) s' k=>@Fn.u _ e 144 s' Q plaF [v,.int .i64 s] h144 (hs,s,()) ⟨_,_,rfl,⟨_,rfl,hL⟩,_,_,rfl,⟨rfl,z1⟩,rfl⟩ trivial k
 replace hpl:∀ (Q:AV→St→Prop) s',Q (.int .i64 (A6 hs s)) s'→ESc e 144 [v,.int .i64 s] s' Q:=hpl
 have hch:=fun (Q:AV→St→Prop) s a b=>@cF.u _ _ _ _ e 104 s Q [.agg c.c,v] h104 (c,hs,()) ⟨_,_,rfl,⟨rfl,hc⟩,_,_,rfl,⟨_,rfl,hL⟩,rfl⟩ trivial a b
 have hh:AM.hf (fndF.out (c,hs,s,()))=true:=by
  unfold fndF;dsimp only;split
  ·split <;> rfl
  ·rfl
 refine ⟨hh,C.of_G hE g97 ?_⟩
 have fin:∀ st v,v=fndF.out (c,hs,s,())→Frz st v (fndF.out (c,hs,s,())):=by
  rintro st v rfl;exact .plain _ hh
 clear hh
 generalize hO:fndF.out (c,hs,s,())=O at fin ⊢
 unfold fndF at hO
 dsimp only at hO hch
 generalize A6 hs s=j at *
 change VW P e 0 _ (Al [.agg c.c,v,.int .i64 s] 0 .lf) St0 none [] _
 conv=>whnf
 repeat' (first|(refine hch _ _ (fun q1=>?_) (fun q1=>?_) <;> conv=>whnf)|(refine hpl _ _ ?_;conv=>whnf)|((first|refine w1 rfl rfl ?_ ?_|refine w6 rfl rfl ?_ ?_) <;> intro _ <;> first|(exfalso;omega)|(conv=>whnf))|fail)
 all_goals first
  | exact fin _ _ (by rw [← hO,Zjj q1,Zjj (by omega)];rfl)
  | exact fin _ _ (by rw [← hO,Zjj q1,Zjn (by omega)];rfl)
  | exact fin _ _ (by rw [← hO,Zjn q1];rfl)
variable {t:AT}{s:St}{n:Nat}
theorem Wq {k:AV→St→Prop}{x:AO}{es r:Nat}(hx:ev x t=.some (.ptr r 0)) (hn:0<n) (hk:k (.sl r 0 n (some n)) s):EPrim (.sla es n x none none none) t s k:=by
 refine EPrim.mk (v:=.sl r 0 n (some n)) (s':=s) (fun e rec=>?_) hk
 show wth x t _=_;unfold wth;rw [hx]
 show gd (Nat.ble 0 n && Nat.ble n n && Nat.ble n n) (.ok (.sl r (Bool.rec (0+0*es) 0 (Nat.beq n 0)) (n-0) (some (n-0))) s)=_
 rw [Zj6 (Zjy n),Zj6 (Zj0 n),show Nat.beq n 0=false by rw [← Zle];intro e;have:=Zjl e;omega,Nat.zero_mul]
 rfl
noncomputable def fldF:Fn (List (List Nat)×Unit):=⟨.v blkC .nil,fun x=>Dr x.1∧x.1.length≤16,fun x=>.tup [Am (AA x.1),.int .i64 0]⟩
theorem Zcy (hE:EM P e):OvOk P 50 fldF.O:=by
 refine B2 g50.b ?_
 rintro ⟨l,_⟩ _ ⟨v,_,rfl,⟨_,e0,hL⟩,rfl⟩ ⟨hB,hl16⟩
 cases e0
 dsimp only at hB hl16 hL
 obtain ⟨cs,hs,hl,hn⟩:=hL.nth
 have hvf:=hL.hf
 refine ⟨rfl,C.of_G hE g50 ?_⟩
 have fin:∀ s,s.get 0=some (.row 170 (Aj (AA l)))→Frz s (.tup [.sl 0 0 128 (some 128),.int .i64 0]) (fldF.out (l,())):=fun s h=>.tup _ _ (.cons (.sl 0 0 128 _ _ 170 _ _ _ h (fun i x h=>by rw [Zju];exact h) (Jj (B0 _)) (.inl rfl)) (.cons (.plain _ rfl) .nil))
 generalize fldF.out _=O at fin ⊢
 have hz:Aj En=Aj (AA (l.take 0)):=rfl
 conv=>whnf
 repeat' (first|(refine Ac rfl hs ?_;conv=>whnf)|((refine w3 rfl rfl ?_ ?_) <;> intro _ <;> first|(exfalso;omega)|(conv=>whnf))|fail)
 refine A0 hE l.length (fun i=>[(4,.ptr 0 0),(5,.int .i64 0),(13,v),(14,.int .i64 (l.length:Int)),(15,.int .i64 (i:Int))]) (fun i=>[.row 170 (Aj (AA (l.take i)))]) (fun _=>True) trivial (Abs.tells (rs:=[0]) ⟨by decide,⟨r9,r9,t9,r9,r9,trivial⟩,⟨⟨Ab (B0 _),by rw [Aa (B0 _)];rfl⟩,trivial⟩⟩) ?_
 intro i hi _
 by_cases hlt:i<l.length
 ·obtain ⟨b,_,r,hb,⟨u,rfl,hu⟩,hd⟩:=hn i hlt
  obtain ⟨hbl,hb256⟩:=hB b (Zj1 hb)
  have hX:=GR (l:=l.take i) fun c hc=>hB c (Zkm hc)
  have hst:=Sk hb
  rw [hst]
  generalize AA (l.take i)=A at *
  have hA:=hX.1
  obtain ⟨ds,hs',hl',hn'⟩:=hu.nth
  have huf:=hu.hf
  conv=>whnf
  repeat' (first|(refine Ai rfl hs rfl hlt hd ?_;conv=>whnf)|(refine EHead.mk rfl ?_;conv=>whnf)|(refine Ac rfl hs' ?_;conv=>whnf)|((first|refine w1 rfl rfl ?_ ?_|refine w5 rfl rfl ?_ ?_) <;> intro _ <;> first|(exfalso;omega)|(conv=>whnf))|fail)
  have h0:Df A b 0=A:=by unfold Df;simp
  refine A0 hE 128 (fun j=>[(4,.ptr 0 0),(5,.int .i64 0),(13,v),(14,.int .i64 (l.length:Int)),(15,.int .i64 (i:Int)),(25,u),(26,.int .i64 (b.length:Int)),(27,.int .i64 (j:Int))]) (fun j=>[.row 170 (Aj (Df A b j))]) (fun _=>True) trivial (Abs.tells (rs:=[0]) ⟨by decide,⟨r9,r9,t9,r9,r9,t9,r9,r9,trivial⟩,⟨⟨Ab (B0 _),by rw [Aa (B0 _),h0];rfl⟩,trivial⟩⟩) ?_
  intro j hj _
  by_cases hjl:j<b.length
  ·obtain ⟨x,hx⟩:∃ x,A[j]?=some x:=⟨_,Zjf (by omega)⟩
   obtain ⟨y,_,r',hy,⟨rfl,hy'⟩,hd'⟩:=hn' j hjl
   have hx':=hX.2 x (Zj1 hx)
   obtain ⟨hg,hset⟩:=RE hA hbl hx hy
   have hjl2:=(Zjg.1 hg).1
   conv=>whnf
   repeat' (first|(refine Ai rfl hs' rfl hjl hd' ?_;conv=>whnf)|(refine EHead.mk rfl ?_;conv=>whnf)|(refine L8 rfl rfl (by omega) (by omega) ?_;conv=>whnf)|(refine Tq (i:=j) (bs:=Df A b j) rfl (by omega) hg ?_;conv=>whnf)|(refine RA rfl rfl hx' hy' ?_;conv=>whnf)|(refine O5 (i:=j) (bs:=Df A b j) rfl (by omega) hjl2 ?_;rw [hset];conv=>whnf)|((refine w1 rfl rfl ?_ ?_) <;> intro _ <;> first|(exfalso;omega)|(conv=>whnf))|((first|refine w7 rfl rfl (by omega) ?_|refine ⟨rfl,?_⟩);conv=>whnf)|fail)
   exact ⟨by omega,trivial,Abs.tells (rs:=[0]) ⟨by decide,⟨r9,r9,t9,r9,r9,t9,r9,r9,trivial⟩,⟨⟨Ab (B0 _),by rw [Aa (B0 _)];rfl⟩,trivial⟩⟩⟩
  ·have he:Df A b j=BK A b:=by
    have:=LE hA hbl
    unfold Df;rw [Zjo (by omega),Zkb (by omega),Zkq]
   rw [he]
   conv=>whnf
   repeat' (first|((refine w1 rfl rfl ?_ ?_) <;> intro _ <;> first|(exfalso;omega)|(conv=>whnf))|((first|refine w7 rfl rfl (by omega) ?_|refine ⟨rfl,?_⟩);conv=>whnf)|fail)
   exact ⟨hlt,trivial,Abs.tells (rs:=[0]) ⟨by decide,⟨r9,r9,t9,r9,r9,trivial⟩,⟨⟨Ab (B0 _),by rw [Aa (B0 _)];rfl⟩,trivial⟩⟩⟩
 ·rw [Zjo (by omega)]
  conv=>whnf
  repeat' (first|(refine Wq rfl (by decide) ?_;conv=>whnf)|((first|refine w1 rfl rfl ?_ ?_|refine w6 rfl rfl ?_ ?_) <;> intro _ <;> first|(exfalso;omega)|(conv=>whnf))|fail)
  exact fin _ rfl
open Classical in
noncomputable def Hr (d:Dv) (s:Int):Nat:=if d.1.may∧BX d.1 d.2.2.2.1∧0≤A6 d.2.2.2.1 s then (d.2.2.2.1[(A6 d.2.2.2.1 s).toNat]?.map fun h=>h.2.2.2.1).getD 0 else 0
noncomputable def phF:Fn (Dv×Int×Unit):=⟨.g dvC (.v i64C .nil),fun _=>True,fun x=>.int .u8 (Hr x.1 x.2.1:Int)⟩
theorem Zfb (hE:EM P e) (h97:Con e 97 fndF.O):OvOk P 47 phF.O:=by
 refine B2 g47.b ?_
 rintro ⟨⟨c,bk,⟨ev,lo,sp,po,dn,nl,br⟩,hs,⟨ag,sq,tl,us,L⟩,fs,nx,so⟩,s,_⟩ _ ⟨_,_,rfl,hd,_,_,rfl,⟨e1,z1⟩,rfl⟩ -
 cases e1
 obtain ⟨hv,lv,fv,rfl,⟨ho,o1,o2,o3,o4,o5,o6,o7,o8,oN⟩,hH,hL,hF⟩:=BE hd
 refine ⟨rfl,C.of_G hE g47 ?_⟩
 have hc:=fun (Q:AV→St→Prop) st k=>@Fn.u _ e 97 st Q fndF [.agg c.c,hv,.int .i64 s] h97 (c,hs,s,()) ⟨_,_,rfl,⟨rfl,ho⟩,_,_,rfl,⟨_,rfl,hH⟩,_,_,rfl,⟨rfl,z1⟩,rfl⟩ trivial k
 have fin:∀ st n,Hr (c,bk,(ev,lo,sp,po,dn,nl,br),hs,(ag,sq,tl,us,L),fs,nx,so) s=n→Frz st (.int .u8 (n:Int)) (phF.out ((c,bk,(ev,lo,sp,po,dn,nl,br),hs,(ag,sq,tl,us,L),fs,nx,so),s,())):=by
  rintro st n rfl;exact .plain _ rfl
 generalize phF.out _=O at fin ⊢
 unfold Hr at fin
 dsimp only at fin hc
 unfold fndF at hc
 dsimp only at hc
 change VW P e 0 _ (Al [_,.int .i64 s] 0 .lf) St0 none [] _
 have hlt:=Gf hs s
 obtain ⟨cs,hs',hl,hn⟩:=hH.nth
 generalize A6 hs s=j at *
 by_cases h1:c.may∧BX c hs
 ·rw [Zjj h1] at hc
  by_cases h2:j<0
  ·rw [Zjj h2] at hc
   rw [Zjn (by rintro ⟨-,-,h⟩;omega)] at fin
   conv=>whnf
   repeat' (first|(refine hc _ _ ?_;conv=>whnf)|((refine w6 rfl rfl ?_ ?_) <;> intro _ <;> first|(exfalso;omega)|(conv=>whnf))|fail)
   exact fin _ 0 rfl
  ·rw [Zjn h2] at hc
   rw [Zjj ⟨h1.1,h1.2,by omega⟩] at fin
   obtain ⟨⟨st,bl,di,ph,de,sq⟩,l,r,hx,hxr,hd2⟩:=hn j.toNat (by omega)
   obtain ⟨bv,dv,rfl,-⟩:=Cf hxr
   rw [hx] at fin
   conv=>whnf
   repeat' (first|(refine hc _ _ ?_;conv=>whnf)|(refine Cm rfl hs' rfl (show j=(j.toNat:Nat) by omega) (by omega) hd2 ?_;conv=>whnf)|(refine EHead.mk rfl ?_;conv=>whnf)|((refine w6 rfl rfl ?_ ?_) <;> intro _ <;> first|(exfalso;omega)|(conv=>whnf))|fail)
   exact fin _ _ rfl
 ·rw [Zjn h1] at hc
  rw [Zjn (by rintro ⟨h,h',-⟩;exact h1 ⟨h,h'⟩)] at fin
  conv=>whnf
  repeat' (first|(refine hc _ _ ?_;conv=>whnf)|((refine w6 rfl rfl ?_ ?_) <;> intro _ <;> first|(exfalso;omega)|(conv=>whnf))|fail)
  exact fin _ 0 rfl
theorem parM {s:Int}(hm:0<c.members):Bp c s (c.members-1)=c.members-1-s / c.chunk % c.members:=by
 unfold Bp
 generalize s / c.chunk=r
 have h1:=Zkz r (show c.members≠0 by omega)
 have h2:=Zk1 r hm
 have h3:=Int.mul_ediv_add_emod r c.members
 have e:r*(c.members-1)+(c.members-1)=(c.members-1-r % c.members)+c.members*(r-r / c.members):=by
  rw [Int.mul_sub,Int.mul_sub,Int.mul_one,Int.mul_comm r c.members]
  omega
 rw [e,Int.add_mul_emod_self_left,Int.emod_eq_of_lt (by omega) (by omega)]
def cd98:AC:=match a98 with|.mk c _=>c
def VB:AC:=match a99 with|.mk c _=>c
def VC:AC:=match a89 with|.mk c _=>c
noncomputable def parF:Fn (Cfg×Int×Unit):=⟨.g cfgC (.v i64C .nil),fun x=>x.1.may∧0≤x.2.1∧x.2.1<AG x.1,fun x=>.tup [.int .i64 (Bp x.1 x.2.1 (x.1.members-1)),.int .i64 0]⟩
theorem Zbv (hE:EM P e) (h40:Con e 40 stripesF.O) (h89:Inl e 89 VC [.tmp 4,.tmp 5]) (h98:Inl e 98 cd98 [.cells 8 7,.tmp 9]) (h99:Inl e 99 VB [.tmp 2]):OvOk P 48 parF.O:=by
 refine B2 g48.b ?_
 rintro ⟨c,s,_⟩ _ ⟨_,_,rfl,⟨rfl,hc⟩,_,_,rfl,⟨e1,z1⟩,rfl⟩ ⟨hM,hs0⟩
 cases e1
 refine ⟨rfl,C.of_G hE g48 ?_⟩
 dsimp only at hM hs0 hc
 have hst:=KC h40 hc hM
 have hmm:=BJ hM
 have hM':=hM
 unfold Cfg.may at hM'
 unfold AG at hs0 hmm
 have hpar:=parM (c:=c) (s:=s) (by omega)
 have fin:∀ st n,n=Bp c s (c.members-1)→Frz st (.tup [.int .i64 n,.int .i64 0]) (parF.out (c,s,())):=by
  rintro st n rfl;exact .plain _ rfl
 generalize parF.out _=O at fin ⊢
 rw [hpar] at fin
 have hd0:=Int.ediv_nonneg hs0.1 (show 0≤c.chunk by omega)
 have hd1:s / c.chunk≤s:=Int.ediv_le_self _ hs0.1
 have hr0:=Zkz (s / c.chunk) (show c.members≠0 by omega)
 have hr1:=Zk1 (s / c.chunk) (show 0<c.members by omega)
 change VW P e 0 _ (Al [.agg c.c,.int .i64 s] 0 .lf) St0 none [] _
 conv=>whnf
 repeat' (first|(refine ESc.inl h98 ?_;conv=>whnf)|(refine hst _ _ ?_;conv=>whnf)|(refine ESc.inl h89 ?_;conv=>whnf)|(refine ESc.inl h99 ?_;conv=>whnf)|(refine H4 rfl rfl (by omega) ?_;conv=>whnf)|(refine JG rfl rfl (by omega) ?_;conv=>whnf)|((first|refine w1 rfl rfl ?_ ?_|refine w4 rfl rfl ?_ ?_|refine w6 rfl rfl ?_ ?_) <;> intro _ <;> first|(exfalso;omega)|(conv=>whnf))|(refine w8 rfl rfl (by omega) ?_;conv=>whnf)|fail)
 exact fin _ _ rfl
def CP (x:Dk):Prop:=x.1.length<1000000∧x.2.1.length<1000000∧(∀ b ∈ x.1,b.length<1000000)∧∀ w ∈ x.2.1,w.2.length<1000000
variable {x:Dk}
theorem Ze4 (h:¬D2 x):CP x:=by
 obtain ⟨⟨h1,h2⟩,-,h3,h4⟩:=S8 h
 exact ⟨by omega,by omega,fun b hb=>by have:=h3 b hb;omega,fun w hw=>by have:=h4 w hw;omega⟩
theorem Pg {y:DK}(h:DKof x y) (hs:CP x):y.ok:=by
 obtain ⟨h1,h2,h3,h4⟩:=hs
 refine ⟨h.a,?_,?_,?_,?_⟩
 ·rw [h.a.bs.length,h.b];exact h1
 ·rw [show y.ws.length=x.2.1.length by rw [← h.w,Zjm]];exact h2
 ·rw [h.b];exact h3
 ·intro w hw
  exact h4 (w.at_,w.b) (by rw [← h.w];exact Zkf.2 ⟨w,hw,rfl⟩)
theorem T7 (h44:Con e 44 dskF.O) {l:List AV}(hx:dkC.r x l) (hs:CP x) (Q:AV→St→Prop) (s:St) (a:CC x→Q (.int .i64 0) s) (b:¬CC x→Q (.int .i64 8) s):ESc e 44 [.agg l] s Q:=by
 obtain ⟨y,hy,rfl⟩:=Ia hx
 refine ESc.fam (e:=e) (k:=Q) (s:=s) dskF h44 y (Pg hy hs) rfl ?_
 have hi:=IU hy
 show Q (.int .i64 (if AN y=true then 0 else 8)) s
 by_cases h:AN y=true
 ·rw [Zjj h];exact a (by rw [← hi];exact h)
 ·rw [Zjn h];exact b (by rw [← hi];exact h)
def memF:Fam Cfg:=⟨Cfg.ok,fun x=>[x.v],fun x=>.tup [.int .i64 (if x.may then x.chunk*x.rows+1 else 0),.int .i64 (if x.may then 0 else 8)],fun x y _ _ h=>by rw [GN (Zjr h).1]⟩
theorem Zb8 (hE:EM P e) (h83:Con e 88 toldF.O):OvOk P 59 memF.O:=by
 refine Ca g59.b ?_
 intro x hx
 refine ⟨rfl,rfl,C.of_G hE g59 ?_⟩
 by_cases hM:x.may
 ·rw [show memF.out x=.tup [.int .i64 (x.chunk*x.rows+1),.int .i64 0] by simp [memF,hM]]
  have hmm:=(BJ hM).1
  unfold AG at hmm
  obtain ⟨id,members,chunk,rows,log,heads⟩:=x
  dsimp only at hmm ⊢
  show VW P e 0 _ (Al [AV.agg [.int .u32 id,.int .i64 members,.int .i64 chunk,.int .i64 rows,.int .i64 log,.int .i64 heads]] 0 .lf) St0 none [] _
  conv=>whnf
  repeat' (first|(refine Cl rfl rfl (by omega) ?_;conv=>whnf)|(refine w7 rfl rfl (by omega) ?_;conv=>whnf)|fail)
  refine ESc.fam toldF h83 (⟨id,members,chunk,rows,log,heads⟩,_) hx (u:=.tup [_,.int .i64 0]) (by simp only [toldF,Zjj hM];rfl) ?_;conv=>whnf
  exact .plain _ rfl
 ·rw [show memF.out x=.tup [.int .i64 0,.int .i64 8] by simp [memF,hM]]
  obtain ⟨id,members,chunk,rows,log,heads⟩:=x
  show VW P e 0 _ (Al [AV.agg [.int .u32 id,.int .i64 members,.int .i64 chunk,.int .i64 rows,.int .i64 log,.int .i64 heads]] 0 .lf) St0 none [] _
  conv=>whnf
  repeat' (first|(refine EPrim.mul rfl rfl ?_;conv=>whnf)|(refine EPrim.add (q:=.i64) rfl rfl ?_;conv=>whnf)|fail)
  refine ESc.fam toldF h83 (⟨id,members,chunk,rows,log,heads⟩,_) hx (u:=.tup [.int .i64 0,.int .i64 8]) (by simp only [toldF,Zjn hM]) ?_;conv=>whnf
  exact .plain _ rfl
noncomputable def ftcF:Fn (Cfg×List Dk×Unit):=cF (.g cfgC (.v dkC.sl .nil)) (fun x=>∀ d ∈ x.2.1,CP d) fun x=>x.1.may∧C8 x.1 x.2.1
theorem Zcs (hE:EM P e) (h44:Con e 44 dskF.O) (h59:Con e 59 memF.O) (h60:Con e 60 journalF.O):OvOk P 19 ftcF.O:=by
 refine Ic hE g19 ?_
 rintro ⟨c,D,_⟩ _ ⟨_,_,rfl,⟨rfl,hc⟩,v,_,rfl,⟨_,e0,hL⟩,rfl⟩ hG K t f
 cases e0
 dsimp only at t f hc hL hG
 have hvf:=hL.hf
 obtain ⟨cs,hs',hl,hn⟩:=hL.nth
 change VW P e 0 _ (Al [.agg c.c,v] 0 .lf) St0 none [] _
 by_cases hM:c.may
 ·have hme:∀ (Q:AV→St→Prop) s,Q (.tup [.int .i64 (c.chunk*c.rows+1),.int .i64 0]) s→ESc e 59 [.agg c.c] s Q:=fun Q s k=>ESc.fam (e:=e) (k:=Q) (s:=s) memF h59 c hc (by unfold memF;dsimp only;rw [Zjj hM,Zjj hM]) k
  have hjo:∀ (Q:AV→St→Prop) s,Q (.tup [.int .i64 (c.log+1),.int .i64 0]) s→ESc e 60 [.agg c.c] s Q:=fun Q s k=>ESc.fam (e:=e) (k:=Q) (s:=s) journalF h60 c hc (by unfold journalF;dsimp only;rw [Zjj hM,Zjj hM]) k
  replace t:=fun q=>t ⟨hM,q⟩
  replace f:=fun (q:¬C8 c D)=>f fun q'=>q q'.2
  have hmm:=(BJ hM).1
  have hlog:=G6 hM
  unfold C8 at t f
  unfold Cfg.may at hM
  unfold AG at *
  conv=>whnf
  repeat' (first|(refine hme _ _ ?_;conv=>whnf)|(refine Ac rfl hs' ?_;conv=>whnf)|((refine w6 rfl rfl ?_ ?_) <;> intro _ <;> first|(exfalso;omega)|(conv=>whnf))|(refine w7 rfl rfl (by omega) ?_;conv=>whnf)|fail)
  ·exact f (fun q=>by omega) _
  have hlen:(D.length:Int)=c.members+1:=by assumption
  refine A0 hE D.length (fun i=>[(2,.ptr 0 0),(5,.int .i64 (c.chunk*c.rows+1)),(25,v),(26,.int .i64 (D.length:Int)),(27,.int .i64 (i:Int))]) (fun _=>[.row 24 c.c]) (fun i=>∀ k<i,∀ d,D[k]?=some d→(d.1.length:Int)=(if (k:Int)=c.members then c.log+1 else 1+c.chunk*c.rows)∧CC d) (fun k h=>by omega) (Abs.tells (rs:=[0]) ⟨by decide,⟨r9,r9,t9,r9,r9,trivial⟩,⟨⟨Ab rfl,by rw [Aa rfl];rfl⟩,trivial⟩⟩) ?_
  intro i hi hI
  by_cases hlt:i<D.length
  ·obtain ⟨x,l,r,hx,hxr,hd⟩:=hn i hlt
   have hdk:=fun (Q:AV→St→Prop) s a b=>T7 (e:=e) h44 hxr (hG x (Zj1 hx)) Q s a b
   have hff:¬((x.1.length:Int)=(if (i:Int)=c.members then c.log+1 else 1+c.chunk*c.rows)∧CC x)→∀ s,K (.int .i64 8) s:=fun h=>f fun q=>h (q.2 i hlt x hx)
   have htt:((x.1.length:Int)=(if (i:Int)=c.members then c.log+1 else 1+c.chunk*c.rows)∧CC x)→∀ k<i+1,∀ d,D[k]?=some d→(d.1.length:Int)=(if (k:Int)=c.members then c.log+1 else 1+c.chunk*c.rows)∧CC d:=fun h=>AK hI fun y e=>by rw [hx] at e;cases e;exact h
   clear t f hI hn
   obtain ⟨bs,ws,dd⟩:=x
   obtain ⟨bv,wv,rfl,h1,-⟩:=Gm hxr
   obtain ⟨xs,k1,l1,-⟩:=h1.nth
   dsimp only at hff htt
   by_cases him:(i:Int)=c.members
   all_goals
    first|rw [Zjj him] at hff htt|rw [Zjn him] at hff htt
    conv=>whnf
    repeat' (first|(refine Ai rfl hs' rfl hlt hd ?_;conv=>whnf)|(refine Ay (cs:=[bv,wv,.bool dd]) rfl ?_;conv=>whnf)|(refine EHead.mk rfl ?_;conv=>whnf)|(refine hjo _ _ ?_;conv=>whnf)|(refine Ac rfl k1 ?_;conv=>whnf)|(refine hdk _ _ (fun q1=>?_) (fun q1=>?_) <;> conv=>whnf)|((first|refine w1 rfl rfl ?_ ?_|refine w5 rfl rfl ?_ ?_|refine w6 rfl rfl ?_ ?_) <;> intro _ <;> first|(exfalso;omega)|(conv=>whnf))|((first|refine w7 rfl rfl (by omega) ?_|refine ⟨rfl,?_⟩);conv=>whnf)|fail)
    all_goals first
     | exact hff (fun q=>by omega) _
     | exact hff (fun q=>q1 q.2) _
     | exact ⟨hlt,htt ⟨by omega,q1⟩,Abs.tells (rs:=[0]) ⟨by decide,⟨r9,r9,t9,r9,r9,trivial⟩,⟨⟨Ab rfl,by rw [Aa rfl];rfl⟩,trivial⟩⟩⟩
  ·conv=>whnf
   repeat' (first|((refine w1 rfl rfl ?_ ?_) <;> intro _ <;> first|(exfalso;omega)|(conv=>whnf))|fail)
   exact t ⟨hlen,fun k hk=>hI k (by omega)⟩ _
 ·have hme:∀ (Q:AV→St→Prop) s,Q (.tup [.int .i64 0,.int .i64 8]) s→ESc e 59 [.agg c.c] s Q:=fun Q s k=>ESc.fam (e:=e) (k:=Q) (s:=s) memF h59 c hc (by unfold memF;dsimp only;rw [Zjn hM,Zjn hM]) k
  conv=>whnf
  repeat' (first|(refine hme _ _ ?_;conv=>whnf)|((refine w6 rfl rfl ?_ ?_) <;> intro _ <;> first|(exfalso;omega)|(conv=>whnf))|fail)
  exact f (fun q=>hM q.1) _
noncomputable def blsF:Fn (Cfg×Unit):=⟨.g cfgC .nil,fun x=>x.1.may,fun x=>.tup [.int .i64 (BP x.1),.int .i64 0]⟩
theorem Zej (hE:EM P e) (h88:Con e 88 toldF.O):OvOk P 41 blsF.O:=by
 refine B2 g41.b ?_
 rintro ⟨c,_⟩ _ ⟨_,_,rfl,⟨rfl,hc⟩,rfl⟩ hM
 dsimp only at hc
 have hM:c.may:=hM
 refine ⟨rfl,C.of_G hE g41 ?_⟩
 have hmm:=BJ hM
 have hto:∀ n (Q:AV→St→Prop) s,Q (.tup [.int .i64 n,.int .i64 0]) s→ESc e 88 [.agg c.c,.int .i64 n] s Q:=fun n Q s k=>ESc.fam (e:=e) (k:=Q) (s:=s) toldF h88 (c,n) hc (by unfold toldF;dsimp only;rw [Zjj hM,Zjj hM]) k
 have fin:∀ st,Frz st (.tup [.int .i64 (BP c),.int .i64 0]) (blsF.out (c,())):=fun st=>.plain _ rfl
 generalize blsF.out _=O at fin ⊢
 unfold BP AG at *
 unfold Cfg.may at hM
 change VW P e 0 _ (Al [.agg c.c] 0 .lf) St0 none [] _
 conv=>whnf
 repeat' (first|(refine Cl rfl rfl (by omega) ?_;conv=>whnf)|(refine hto _ _ _ ?_;conv=>whnf)|(refine w8 rfl rfl (by omega) ?_;conv=>whnf)|fail)
 exact fin _
def Zi1:AC:=match Nb with|.mk c _=>c
noncomputable def splF:Fn (Cfg×Ak×Unit):=⟨.g cfgC (.g akC .nil),fun x=>x.1.may,fun x=>.int .i64 (B7 x.1 x.2.1)⟩
set_option maxHeartbeats 2000000 in
theorem Zbh (hE:EM P e) (h41:Con e 41 blsF.O) (h212:Inl e 212 Zi1 [.cells 2 3,.tmp 3]):OvOk P 209 splF.O:=by
 refine B2 g209.b ?_
 rintro ⟨c,⟨k,a,m,d⟩,_⟩ _ ⟨_,_,rfl,⟨rfl,hc⟩,_,_,rfl,hg,rfl⟩ hM
 obtain ⟨v,rfl,o1,o2,o3,hd⟩:=Hi hg
 obtain ⟨cs,hs',hl,-⟩:=hd.nth
 refine ⟨rfl,C.of_G hE g209 ?_⟩
 have f0:Bu c (k,a,m,d)→∀ s,Frz s (.int .i64 0) (splF.out (c,(k,a,m,d),())):=fun h s=>by
  show Frz s _ (.int .i64 (B7 c (k,a,m,d)));unfold B7;rw [Zjj h];exact .plain _ rfl
 have f3:¬Bu c (k,a,m,d)→∀ d',Bu c (k,a,m,d')→∀ s,Frz s (.int .i64 3) (splF.out (c,(k,a,m,d),())):=fun h d' h' s=>by
  show Frz s _ (.int .i64 (B7 c (k,a,m,d)));unfold B7;rw [Zjn h,Zjj ⟨d',h'⟩];exact .plain _ rfl
 have f2:(∀ d',¬Bu c (k,a,m,d'))→∀ s,Frz s (.int .i64 2) (splF.out (c,(k,a,m,d),())):=fun h s=>by
  show Frz s _ (.int .i64 (B7 c (k,a,m,d)));unfold B7;rw [Zjn (h d),Zjn (fun q=>q.elim h)];exact .plain _ rfl
 generalize splF.out _=O at f0 f2 f3 ⊢
 have hM:c.may:=hM
 dsimp only at hc
 have hmm:=BJ hM
 have hbl:∀ (Q:AV→St→Prop) s,Q (.tup [.int .i64 (BP c),.int .i64 0]) s→ESc e 41 [.agg c.c] s Q:=fun Q s k=>Fn.u (F:=blsF) h41 (c,()) ⟨_,_,rfl,⟨rfl,hc⟩,rfl⟩ hM k
 have f3:¬Bu c (k,a,m,d)→(1≤k∧k≤6∧(k=4∨k=6→a=0∧m=0)∧(¬(k=4∨k=6)→1≤m∧m≤8∧0≤a∧a≤BP c-m))→∀ s,Frz s (.int .i64 3) O:=fun h q=>f3 h (List.replicate (if k=2∨k=3 then (m*128).toNat else 0) 0) ⟨q.1,q.2.1,q.2.2.1,q.2.2.2,fun e=>by rw [Zjj e,List.length_replicate];have:=q.2.2.2 (by omega);omega,fun e=>by rw [Zjn e];rfl⟩
 have f2:¬(1≤k∧k≤6∧(k=4∨k=6→a=0∧m=0)∧(¬(k=4∨k=6)→1≤m∧m≤8∧0≤a∧a≤BP c-m))→∀ s,Frz s (.int .i64 2) O:=fun h=>f2 fun d' q=>h ⟨q.1,q.2.1,q.2.2.1,q.2.2.2.1⟩
 unfold Bu at f0 f3
 generalize BP c=B at *
 unfold Ad at *
 dsimp only at f0 f2 f3
 change VW P e 0 _ (Al [.agg c.c,_] 0 .lf) St0 none [] _
 conv=>whnf
 repeat' (first|(refine hbl _ _ ?_;conv=>whnf)|(refine Ac rfl hs' ?_;conv=>whnf)|(refine ESc.inl h212 ?_;conv=>whnf)|(refine EPrim.min2 rfl ?_;conv=>whnf)|(refine Cl rfl rfl (by omega) ?_;conv=>whnf)|((first|refine w1 rfl rfl ?_ ?_|refine w3 rfl rfl ?_ ?_|refine w5 rfl rfl ?_ ?_|refine w6 rfl rfl ?_ ?_) <;> intro _ <;> first|(exfalso;omega)|(conv=>whnf))|((first|refine w8 rfl rfl (by omega) ?_|refine w12 rfl ?_|refine w13 rfl ?_);conv=>whnf)|fail)
 all_goals first
  | exact f2 (by omega) _
  | exact f3 (by omega) (by omega) _
  | exact f0 (by omega) _
def Gu (a:Int) (n:Nat):List AV:=(List.range n).map fun (i:Nat)=>AV.int .i64 (a+(i:Int))
def FJ (a:Int) (n:Nat):AV:=match n with
 | 0=>.nils
 | n+1=>.fz (n+1) none (Gu a (n+1))
theorem To (a:Int) (n:Nat):hfs (Gu a n)=true:=Gc fun k _=>rfl
theorem Yj (a:Int) (n:Nat):Gu a (n+1)=Gu a n++[.int .i64 (a+(n:Int))]:=JT
theorem Z9 (a:Int) (n:Nat):(Gu a n).length=n:=by unfold Gu;simp
variable {a:Int}
theorem OF (h:∀ i<n,Ad (a+(i:Int))) (hn:n≤1000):Ls i64C ((List.range n).map fun (i:Nat)=>a+(i:Int)) (FJ a n):=by
 rcases n with _|n
 ·exact Jo (.inl rfl)
 ·refine ⟨(List.range (n+1)).map fun (i:Nat)=>[AV.int .i64 (a+(i:Int))],?_,.inr (.inr ⟨none,?_,?_⟩),by simp;omega⟩
  ·refine E3 (by simp) fun i x l' h1 h2=>?_
   rw [Zke] at h1 h2
   by_cases hi:i<n+1
   ·rw [List.getElem?_range hi] at h1 h2
    cases h1
    cases h2
    exact ⟨rfl,Bg (h i hi)⟩
   ·rw [Zlg (by simp;omega)] at h1
    cases h1
  ·rw [JZ (fun (i:Nat)=>AV.int .i64 (a+(i:Int)))];simp;rfl
  ·rw [JZ (fun (i:Nat)=>AV.int .i64 (a+(i:Int))),Zjm,List.length_range,Zjm,List.length_range];exact (Zki _).symm
noncomputable def sblF:Fn (Cfg×Ak×Unit):=⟨.g cfgC (.g akC .nil),fun x=>x.1.may,fun x=>if B7 x.1 x.2.1=0 then .tup [FJ x.2.1.2.1 x.2.1.2.2.1.toNat,.int .i64 0] else .tup [.nils,.int .i64 (B7 x.1 x.2.1)]⟩
theorem akE_iff {x:Ak}:B7 c x=0↔Bu c x:=⟨fun h=>Classical.byContradiction fun n=>UY n h,UZ⟩
variable {k:Nat}
theorem LU {m:Int}{d:List Nat}(hM:c.may) (h:Bu c (k,a,m,d)):0≤m∧m≤8∧0≤a∧a≤1000:=by
 have hmm:=(BJ hM).2
 obtain ⟨h1,h2,h3,h4,-⟩:=h
 omega
def slO (n:Nat) (r:Nat):AV:=match n with
 | 0=>.nils
 | n+1=>.sl r 0 (n+1) none
theorem Zbo (hE:EM P e) (h209:Con e 209 splF.O):OvOk P 189 sblF.O:=by
 refine B2 g189.b ?_
 rintro ⟨c,⟨k,a,m,d⟩,_⟩ _ ⟨_,_,rfl,⟨rfl,hc⟩,_,_,rfl,hg,rfl⟩ hM
 have hM:c.may:=hM
 dsimp only at hc
 have hg0:=hg
 have hsp:∀ (Q:AV→St→Prop) s l,akC.r (k,a,m,d) l→Q (.int .i64 (B7 c (k,a,m,d))) s→ESc e 209 [.agg c.c,.agg l] s Q:=fun Q s l hl q=>Fn.u (F:=splF) h209 (c,(k,a,m,d),()) ⟨_,_,rfl,⟨rfl,hc⟩,_,_,rfl,hl,rfl⟩ hM q
 obtain ⟨v,rfl,o1,o2,o3,hd⟩:=Hi hg
 have hsp:=fun Q s=>hsp Q s _ hg
 have hrow:=akC.hf hg
 have hvf:=hd.hf
 have hh:AM.hf (sblF.out (c,(k,a,m,d),()))=true:=by
  unfold sblF;dsimp only;split
  ·unfold FJ;split <;> rfl
  ·rfl
 refine ⟨hh,C.of_G hE g189 ?_⟩
 have hO:∀ O,sblF.out (c,(k,a,m,d),())=O→(if B7 c (k,a,m,d)=0 then AV.tup [FJ a m.toNat,.int .i64 0] else .tup [.nils,.int .i64 (B7 c (k,a,m,d))])=O:=fun O h=>h
 generalize hO':sblF.out (c,(k,a,m,d),())=O at hh ⊢
 replace hO:=hO O hO'
 change VW P e 0 _ (Al [.agg c.c,.agg [.int .u8 (k:Int),.int .i64 a,.int .i64 m,v]] 0 .lf) St0 none [] _
 by_cases h0:Bu c (k,a,m,d)
 ·have hm:=LU hM h0
  rw [akE_iff.2 h0] at hsp hO
  rw [Zjj rfl] at hO
  obtain ⟨n,rfl⟩:∃ n:Nat,m=n:=⟨m.toNat,by omega⟩
  rw [Int.toNat_natCast] at hO
  have fin0:n=0→∀ st,Frz st (.tup [.nils,.int .i64 0]) O:=fun h st=>by
   subst h;rw [← hO];exact .plain _ rfl
  have fin1:∀ i r st,n=i+1→st.get r=some (.row 3 (Gu a (i+1)))→Frz st (.tup [.sl r 0 (i+1) none,.int .i64 0]) O:=fun i r st h hg2=>by
   subst h;rw [← hO]
   exact .tup _ _ (.cons (.sl r 0 (i+1) _ _ 3 _ _ _ hg2 (fun j x hx=>by rw [Zju];exact hx) (DG (To _ _)) (.inl rfl)) (.cons (.plain _ rfl) .nil))
  conv=>whnf
  repeat' (first|(refine hsp _ _ ?_;conv=>whnf)|((refine w6 rfl rfl ?_ ?_) <;> intro _ <;> first|(exfalso;omega)|(conv=>whnf))|fail)
  refine A0 hE n (fun i=>[(3,.ptr 1 0),(4,slO i 2),(15,.int .i64 (n:Int)),(16,.int .i64 (i:Int))]) (fun i=>match i with|0=>[.row 24 c.c,.row 140 [.int .u8 (k:Int),.int .i64 a,.int .i64 (n:Int),v]]|i+1=>[.row 24 c.c,.row 140 [.int .u8 (k:Int),.int .i64 a,.int .i64 (n:Int),v],.row 3 (Gu a (i+1))]) (fun _=>True) trivial (Abs.tells (rs:=[0,1]) ⟨by decide,⟨r9,r9,r9,r9,trivial⟩,⟨⟨Ab rfl,by rw [Aa rfl];rfl⟩,⟨Ab hrow,by rw [Aa hrow];rfl⟩,trivial⟩⟩) ?_
  intro i hi _
  unfold Ad at o2 o3
  by_cases hlt:i<n
  ·have hli:=To a
   have hsu:=Yj a i
   rcases i with _|i
   ·conv=>whnf
    repeat' (first|(refine CT (m:=1) rfl rfl rfl rfl (by decide) (by decide) ?_;conv=>whnf)|((refine w1 rfl rfl ?_ ?_) <;> intro _ <;> first|(exfalso;omega)|(conv=>whnf))|((first|refine w7 rfl rfl (by omega) ?_|refine ⟨rfl,?_⟩);conv=>whnf)|fail)
    exact ⟨hlt,trivial,Abs.tells (rs:=[0,1,3]) ⟨by decide,⟨r9,r9,r9,r9,trivial⟩,⟨⟨Ab rfl,by rw [Aa rfl];rfl⟩,⟨Ab hrow,by rw [Aa hrow];rfl⟩,⟨Ab rfl,rfl⟩,trivial⟩⟩⟩
   ·have hli2:=hli (i+1+1)
    rw [hsu] at hli2
    dsimp only
    rw [hsu]
    conv=>whnf
    repeat' (first|(refine Cy (m:=1) (n:=i+1) (old:=Gu a (i+1)) rfl rfl rfl rfl (by rw [Z9];exact (Zki _).symm) rfl (by decide) (by omega) ?_;conv=>whnf)|((refine w1 rfl rfl ?_ ?_) <;> intro _ <;> first|(exfalso;omega)|(conv=>whnf))|((first|refine w7 rfl rfl (by omega) ?_|refine ⟨rfl,?_⟩);conv=>whnf)|fail)
    exact ⟨hlt,trivial,Abs.tells (rs:=[0,1,4]) ⟨by decide,⟨r9,r9,r9,r9,trivial⟩,⟨⟨Ab rfl,by rw [Aa rfl];rfl⟩,⟨Ab hrow,by rw [Aa hrow];rfl⟩,⟨Ab hli2,by rw [Aa hli2];rfl⟩,trivial⟩⟩⟩
  ·obtain rfl:i=n:=by omega
   rcases i with _|i
   ·conv=>whnf
    repeat' (first|((refine w1 rfl rfl ?_ ?_) <;> intro _ <;> first|(exfalso;omega)|(conv=>whnf))|fail)
    exact fin0 rfl _
   ·conv=>whnf
    repeat' (first|((refine w1 rfl rfl ?_ ?_) <;> intro _ <;> first|(exfalso;omega)|(conv=>whnf))|fail)
    exact fin1 i _ _ rfl rfl
 ·have hne:=mt akE_iff.1 h0
  rw [Zjn hne] at hO
  generalize B7 c (k,a,m,d)=E at *
  have fin:∀ st,Frz st (.tup [.nils,.int .i64 E]) O:=fun st=>by rw [← hO];exact .plain _ rfl
  conv=>whnf
  repeat' (first|(refine hsp _ _ ?_;conv=>whnf)|((refine w6 rfl rfl ?_ ?_) <;> intro _ <;> first|(exfalso;omega)|(conv=>whnf))|fail)
  all_goals first
   | exact absurd (by assumption) hne
   | exact fin _
theorem Jm {β:Type}(hE:EM P e) {rd:Option Nat}{ac:AC}{Q:EQ}(n:Nat) (tl:Nat→β→List (Nat×AV)) (os:Nat→β→List AObj) (I:Nat→β→Prop) (b0:β) (h0:I 0 b0) (ha:Tells P k t s [] (At (tl 0 b0)) (Ae St0 (os 0 b0)) [])
 (hr:∀ i b,i≤n→I i b→VW P e k ac (At (tl i b)) (Ae St0 (os i b)) rd [] (Ho (fun t s ds=>ds=[]∧i<n∧∃ b',I (i+1) b'∧Tells P k t s [] (At (tl (i+1) b')) (Ae St0 (os (i+1) b')) []) Q)):W P k rd (.loop ac) t s [] Q:=by
 refine DH (α:=Nat×β) (fun x=>tl x.1 x.2) (fun x=>os x.1 x.2) (fun x=>n-x.1) (fun x=>x.1≤n∧I x.1 x.2) (0,b0) ⟨Zjy _,h0⟩ ha ?_
 rintro ⟨i,b⟩ ⟨hi,hI⟩
 refine (Cz hE (hr i b hi hI)).mono ?_
 intro x t s ds hq
 cases x with
 | normal=>
  obtain ⟨rfl,h1,b',h2,h3⟩:=hq
  exact ⟨rfl,(i+1,b'),⟨h1,h2⟩,by dsimp only at hi ⊢;omega,h3⟩
 | exit id=>exact hq
 | ret=>exact hq
def ET (a:Int):Nat→List Int
 | 0=>[]
 | i+1=>DA (a+(i:Int)) (ET a i)
theorem Gb {n:Int}:∀ {i:Nat},n ∈ ET a i↔a≤n∧n<a+(i:Int)
 | 0=>by simp [ET];try omega
 | i+1=>by
  unfold ET DA
  split
  ·rename_i h
   rw [Gb] at h ⊢
   omega
  ·rw [Zj7,Gb,List.mem_singleton];omega
def G1 (k:Nat):Bool:=decide (k=2∨k=3∨k=5)
def ofV (k:Nat):AV:=.tup [.agg [.int .i64 (if k=4∨k=6∨k=0∨6<k then 0 else 8),.bool (decide (k=2∨k=3)),.bool (G1 k)],.bool (decide (1≤k∧k≤6))]
noncomputable def ofF:Fn (Nat×Unit):=⟨.v Ce.u8 .nil,fun _=>True,fun x=>ofV x.1⟩
theorem Zfj (hE:EM P e):OvOk P 212 ofF.O:=by
 refine B2 g212.b ?_
 rintro ⟨k,_⟩ _ ⟨_,_,rfl,⟨e1,z1⟩,rfl⟩ -
 cases e1
 dsimp only at z1
 refine ⟨rfl,C.of_G hE g212 ?_⟩
 have fin:∀ st a b c d,(if k=4∨k=6∨k=0∨6<k then (0:Int) else 8)=a→decide (k=2∨k=3)=b→G1 k=c→decide (1≤k∧k≤6)=d→Frz st (.tup [.agg [.int .i64 a,.bool b,.bool c],.bool d]) (ofF.out (k,())):=by
  rintro st a b c d rfl rfl rfl rfl;exact .plain _ rfl
 generalize ofF.out _=O at fin ⊢
 unfold G1 at fin
 change VW P e 0 _ (Al [.int .u8 (k:Int)] 0 .lf) St0 none [] _
 conv=>whnf
 repeat' (first|((refine w5 rfl rfl ?_ ?_) <;> intro _ <;> first|(exfalso;omega)|(conv=>whnf))|fail)
 all_goals first
  | exact fin _ _ _ _ _ (by first|exact Zjj (by omega)|exact Zjn (by omega)) (by first|exact Zjk (by omega)|exact Zjw (by omega)) (by first|exact Zjk (by omega)|exact Zjw (by omega)) (by first|exact Zjk (by omega)|exact Zjw (by omega))
noncomputable def tchF:Fn (Cfg×Ak×Ak×Unit):=⟨.g cfgC (.g akC (.g akC .nil)),fun x=>x.1.may∧Bu x.1 x.2.1∧Bu x.1 x.2.2.1,fun x=>.tup [pB (Fi x.2.1 x.2.2.1),.int .i64 0]⟩
set_option maxHeartbeats 2000000 in
theorem Zbe (hE:EM P e) (h189:Con e 189 sblF.O) (h212:Con e 212 ofF.O):OvOk P 193 tchF.O:=by
 refine B2 g193.b ?_
 rintro ⟨c,⟨k,a,m,d⟩,⟨k',a',m',d'⟩,_⟩ _ ⟨_,_,rfl,⟨rfl,hc⟩,_,_,rfl,hx,_,_,rfl,hy,rfl⟩ ⟨hM,hB,hB'⟩
 dsimp only at hc hx hy hM hB hB'
 have hsb:∀ (k:Nat) (a m:Int) (d:List Nat) (Q:AV→St→Prop) s l,akC.r (k,a,m,d) l→Bu c (k,a,m,d)→Q (.tup [FJ a m.toNat,.int .i64 0]) s→ESc e 189 [.agg c.c,.agg l] s Q:=fun k a m d Q s l hl hb q=>Fn.u (F:=sblF) h189 (c,(k,a,m,d),()) ⟨_,_,rfl,⟨rfl,hc⟩,_,_,rfl,hl,rfl⟩ hM (by
  show Q (if B7 c (k,a,m,d)=0 then .tup [FJ a m.toNat,.int .i64 0] else .tup [.nils,.int .i64 (B7 c (k,a,m,d))]) s
  rw [Zjj (akE_iff.2 hb)];exact q)
 obtain ⟨v,rfl,o1,o2,o3,hd⟩:=Hi hx
 obtain ⟨v',rfl,o1',o2',o3',hd'⟩:=Hi hy
 have hs1:=fun Q s=>hsb _ _ _ _ Q s _ hx hB
 have hs2:=fun Q s=>hsb _ _ _ _ Q s _ hy hB'
 have hr1:=akC.hf hx
 have hr2:=akC.hf hy
 have hz:m=0→a=0:=by have:=hB.2.2.1;have:=hB.2.2.2.1;omega
 have hz':m'=0→a'=0:=by have:=hB'.2.2.1;have:=hB'.2.2.2.1;omega
 have hm:=LU hM hB
 have hm':=LU hM hB'
 have hof:∀ (k:Nat) (Q:AV→St→Prop) s,k<256→Q (ofV k) s→ESc e 212 [.int .u8 (k:Int)] s Q:=fun k Q s hk q=>Fn.u (F:=ofF) h212 (k,()) ⟨_,_,rfl,⟨rfl,hk⟩,rfl⟩ trivial q
 have hof1:=fun Q s=>hof k Q s o1
 have hof2:=fun Q s=>hof k' Q s o1'
 have hw:(G1 k=true↔(k=2∨k=3∨k=5)):=by unfold G1;exact decide_eq_true_iff
 have hw':(G1 k'=true↔(k'=2∨k'=3∨k'=5)):=by unfold G1;exact decide_eq_true_iff
 unfold ofV at hof1 hof2
 clear hsb hof
 refine ⟨rfl,C.of_G hE g193 ?_⟩
 have ft:Fi (k,a,m,d) (k',a',m',d')→∀ st,Frz st (.tup [.bool true,.int .i64 0]) (tchF.out (c,(k,a,m,d),(k',a',m',d'),())):=fun h st=>.tup _ _ (.cons (pT h) (.cons (.plain _ rfl) .nil))
 have ff:¬Fi (k,a,m,d) (k',a',m',d')→∀ st,Frz st (.tup [.bool false,.int .i64 0]) (tchF.out (c,(k,a,m,d),(k',a',m',d'),())):=fun h st=>.tup _ _ (.cons (pF h) (.cons (.plain _ rfl) .nil))
 generalize tchF.out _=O at ft ff ⊢
 unfold Fi at ft ff
 dsimp only at ft ff
 obtain ⟨n,rfl⟩:∃ n:Nat,m=n:=⟨m.toNat,by omega⟩
 obtain ⟨n',rfl⟩:∃ n:Nat,m'=n:=⟨m'.toNat,by omega⟩
 rw [Int.toNat_natCast] at hs1 hs2
 have hL1:=OF (a:=a) (n:=n) (fun i hi=>by unfold Ad;omega) (by omega)
 have hL2:=OF (a:=a') (n:=n') (fun i hi=>by unfold Ad;omega) (by omega)
 rw [← hw,← hw'] at ft ff
 generalize G1 k=b1 at *
 generalize G1 k'=b2 at *
 generalize (if k=4∨k=6∨k=0∨6<k then (0:Int) else 8)=y1 at hof1
 generalize (if k'=4∨k'=6∨k'=0∨6<k' then (0:Int) else 8)=y2 at hof2
 generalize decide (k=2∨k=3)=y3 at hof1
 generalize decide (k'=2∨k'=3)=y4 at hof2
 generalize decide (1≤k∧k≤6)=y5 at hof1
 generalize decide (1≤k'∧k'≤6)=y6 at hof2
 generalize FJ a n=u at *
 generalize FJ a' n'=u' at *
 have hu:=hL1.hf
 have hu':=hL2.hf
 obtain ⟨cs,k1,-,e1⟩:=hL1.nth
 obtain ⟨cs',k2,-,e2⟩:=hL2.nth
 rw [Zjm,List.length_range] at k1 k2 e1 e2
 change VW P e 0 _ (Al [.agg c.c,.agg [.int .u8 (k:Int),.int .i64 a,.int .i64 (n:Int),v],.agg [.int .u8 (k':Int),.int .i64 a',.int .i64 (n':Int),v']] 0 .lf) St0 none [] _
 cases b1 <;> cases b2
 all_goals
  conv=>whnf
  repeat' (first|(refine hs1 _ _ ?_;conv=>whnf)|(refine hs2 _ _ ?_;conv=>whnf)|(refine hof1 _ _ ?_;conv=>whnf)|(refine hof2 _ _ ?_;conv=>whnf)|(refine Ac rfl k1 ?_;conv=>whnf)|((refine w6 rfl rfl ?_ ?_) <;> intro _ <;> first|(exfalso;omega)|(conv=>whnf))|fail)
 ·replace ff:=ff (by simp)
  clear ft
  clear hof1 hof2 hs1 hs2
  refine Jm hE (β:=List (AV×AV×Nat)×Nat) n (fun i b=>[(10,u'),(15,.map 0),(16,.int .i64 1),(58,u),(59,.int .i64 (n:Int)),(60,.int .i64 (i:Int))]) (fun i b=>[.map b.1 b.2]) (fun i b=>KM (.int .i64 1) b.1 (ET a i)) ([],0) (KM.nil _) (Abs.tells (rs:=[5]) ⟨by decide,⟨t9,r9,r9,t9,r9,r9,trivial⟩,⟨r9,trivial⟩⟩) ?_
  rintro i ⟨es,N⟩ hi hK
  dsimp only at hK ⊢
  by_cases hlt:i<n
  ·obtain ⟨x,_,r,h1,⟨rfl,-⟩,h3⟩:=e1 i hlt
   rw [Zke,List.getElem?_range hlt] at h1
   cases h1
   replace h3:cs.drop (i*1)=[.int .i64 (a+(i:Int))]++r:=h3
   conv=>whnf
   repeat' (first|(refine Ai rfl k1 rfl hlt h3 ?_;conv=>whnf)|(refine EHead.mk rfl ?_;conv=>whnf)|(refine H0 rfl rfl rfl rfl hK (fun es' N' hK'=>?_);conv=>whnf)|((refine w1 rfl rfl ?_ ?_) <;> intro _ <;> first|(exfalso;omega)|(conv=>whnf))|((first|refine w7 rfl rfl (by omega) ?_|refine ⟨rfl,?_⟩);conv=>whnf)|fail)
   refine ⟨hlt,(es',N'),hK',Abs.tells (rs:=[0]) ⟨by decide,⟨t9,r9,r9,t9,r9,r9,trivial⟩,⟨⟨Ds rfl hK',?_⟩,trivial⟩⟩⟩
   show _=some (AObj.map (BI _ es') N');rw [Dq rfl hK'];rfl
  ·obtain rfl:i=n:=by omega
   conv=>whnf
   repeat' (first|(refine Ac rfl k2 ?_;conv=>whnf)|((refine w1 rfl rfl ?_ ?_) <;> intro _ <;> first|(exfalso;omega)|(conv=>whnf))|fail)
   refine A0 hE n' (fun j=>[(15,.map 0),(68,u'),(69,.int .i64 (n':Int)),(70,.int .i64 (j:Int))]) (fun j=>[.map es N]) (fun j=>∀ k<j,¬(a'+(k:Int) ∈ ET a i∧(1:Int)=2)) (fun k h=>by omega) (Abs.tells (rs:=[0]) ⟨by decide,⟨r9,t9,r9,r9,trivial⟩,⟨⟨Ds rfl hK,?_⟩,trivial⟩⟩) ?_
   ·show _=some (AObj.map (BI _ es) N);rw [Dq rfl hK];rfl
   intro j hj hJ
   by_cases hjl:j<n'
   ·obtain ⟨x,_,r,h1,⟨rfl,-⟩,h3⟩:=e2 j hjl
    rw [Zke,List.getElem?_range hjl] at h1
    cases h1
    replace h3:cs'.drop (j*1)=[.int .i64 (a'+(j:Int))]++r:=h3
    conv=>whnf
    repeat' (first|(refine Ai rfl k2 rfl hjl h3 ?_;conv=>whnf)|(refine EHead.mk rfl ?_;conv=>whnf)|(refine H1 rfl rfl rfl hK (fun hin=>?_) (fun hin=>?_) <;> conv=>whnf)|((first|refine w1 rfl rfl ?_ ?_|refine w3 rfl rfl ?_ ?_) <;> intro _ <;> first|(exfalso;omega)|(conv=>whnf))|((first|refine w7 rfl rfl (by omega) ?_|refine ⟨rfl,?_⟩);conv=>whnf)|fail)
    all_goals first
     | exact ft (by rw [Gb] at hin;omega) _
     | (refine ⟨hjl,AK hJ (fun q=>by first|exact hin q.1|exact absurd q.2 (by decide)),Abs.tells (rs:=[0]) ⟨by decide,⟨r9,t9,r9,r9,trivial⟩,⟨⟨Ds rfl hK,?_⟩,trivial⟩⟩⟩
        show _=some (AObj.map (BI _ es) N);rw [Dq rfl hK];rfl)
   ·conv=>whnf
    repeat' (first|((refine w1 rfl rfl ?_ ?_) <;> intro _ <;> first|(exfalso;omega)|(conv=>whnf))|fail)
    exact ff _
 ·replace ft:=fun q=>ft ⟨by simp,q⟩
  replace ff:=fun (q:¬(a<a'+(n':Int)∧a'<a+(n:Int)))=>ff fun q'=>q q'.2
  clear hof1 hof2 hs1 hs2
  refine Jm hE (β:=List (AV×AV×Nat)×Nat) n (fun i b=>[(10,u'),(15,.map 0),(16,.int .i64 2),(58,u),(59,.int .i64 (n:Int)),(60,.int .i64 (i:Int))]) (fun i b=>[.map b.1 b.2]) (fun i b=>KM (.int .i64 2) b.1 (ET a i)) ([],0) (KM.nil _) (Abs.tells (rs:=[5]) ⟨by decide,⟨t9,r9,r9,t9,r9,r9,trivial⟩,⟨r9,trivial⟩⟩) ?_
  rintro i ⟨es,N⟩ hi hK
  dsimp only at hK ⊢
  by_cases hlt:i<n
  ·obtain ⟨x,_,r,h1,⟨rfl,-⟩,h3⟩:=e1 i hlt
   rw [Zke,List.getElem?_range hlt] at h1
   cases h1
   replace h3:cs.drop (i*1)=[.int .i64 (a+(i:Int))]++r:=h3
   conv=>whnf
   repeat' (first|(refine Ai rfl k1 rfl hlt h3 ?_;conv=>whnf)|(refine EHead.mk rfl ?_;conv=>whnf)|(refine H0 rfl rfl rfl rfl hK (fun es' N' hK'=>?_);conv=>whnf)|((refine w1 rfl rfl ?_ ?_) <;> intro _ <;> first|(exfalso;omega)|(conv=>whnf))|((first|refine w7 rfl rfl (by omega) ?_|refine ⟨rfl,?_⟩);conv=>whnf)|fail)
   refine ⟨hlt,(es',N'),hK',Abs.tells (rs:=[0]) ⟨by decide,⟨t9,r9,r9,t9,r9,r9,trivial⟩,⟨⟨Ds rfl hK',?_⟩,trivial⟩⟩⟩
   show _=some (AObj.map (BI _ es') N');rw [Dq rfl hK'];rfl
  ·obtain rfl:i=n:=by omega
   conv=>whnf
   repeat' (first|(refine Ac rfl k2 ?_;conv=>whnf)|((refine w1 rfl rfl ?_ ?_) <;> intro _ <;> first|(exfalso;omega)|(conv=>whnf))|fail)
   refine A0 hE n' (fun j=>[(15,.map 0),(68,u'),(69,.int .i64 (n':Int)),(70,.int .i64 (j:Int))]) (fun j=>[.map es N]) (fun j=>∀ k<j,¬(a'+(k:Int) ∈ ET a i∧(2:Int)=2)) (fun k h=>by omega) (Abs.tells (rs:=[0]) ⟨by decide,⟨r9,t9,r9,r9,trivial⟩,⟨⟨Ds rfl hK,?_⟩,trivial⟩⟩) ?_
   ·show _=some (AObj.map (BI _ es) N);rw [Dq rfl hK];rfl
   intro j hj hJ
   by_cases hjl:j<n'
   ·obtain ⟨x,_,r,h1,⟨rfl,-⟩,h3⟩:=e2 j hjl
    rw [Zke,List.getElem?_range hjl] at h1
    cases h1
    replace h3:cs'.drop (j*1)=[.int .i64 (a'+(j:Int))]++r:=h3
    conv=>whnf
    repeat' (first|(refine Ai rfl k2 rfl hjl h3 ?_;conv=>whnf)|(refine EHead.mk rfl ?_;conv=>whnf)|(refine H1 rfl rfl rfl hK (fun hin=>?_) (fun hin=>?_) <;> conv=>whnf)|((first|refine w1 rfl rfl ?_ ?_|refine w3 rfl rfl ?_ ?_) <;> intro _ <;> first|(exfalso;omega)|(conv=>whnf))|((first|refine w7 rfl rfl (by omega) ?_|refine ⟨rfl,?_⟩);conv=>whnf)|fail)
    all_goals first
     | exact ft (by rw [Gb] at hin;omega) _
     | (refine ⟨hjl,AK hJ (fun q=>by first|exact hin q.1|exact absurd q.2 (by decide)),Abs.tells (rs:=[0]) ⟨by decide,⟨r9,t9,r9,r9,trivial⟩,⟨⟨Ds rfl hK,?_⟩,trivial⟩⟩⟩
        show _=some (AObj.map (BI _ es) N);rw [Dq rfl hK];rfl)
   ·conv=>whnf
    repeat' (first|((refine w1 rfl rfl ?_ ?_) <;> intro _ <;> first|(exfalso;omega)|(conv=>whnf))|fail)
    exact ff (fun q=>hJ (if a'≤a then (a-a').toNat else 0) (by split <;> omega) ⟨by rw [Gb];split <;> omega,rfl⟩) _
 ·replace ft:=fun q=>ft ⟨by simp,q⟩
  replace ff:=fun (q:¬(a<a'+(n':Int)∧a'<a+(n:Int)))=>ff fun q'=>q q'.2
  clear hof1 hof2 hs1 hs2
  refine Jm hE (β:=List (AV×AV×Nat)×Nat) n (fun i b=>[(10,u'),(15,.map 0),(16,.int .i64 2),(58,u),(59,.int .i64 (n:Int)),(60,.int .i64 (i:Int))]) (fun i b=>[.map b.1 b.2]) (fun i b=>KM (.int .i64 2) b.1 (ET a i)) ([],0) (KM.nil _) (Abs.tells (rs:=[5]) ⟨by decide,⟨t9,r9,r9,t9,r9,r9,trivial⟩,⟨r9,trivial⟩⟩) ?_
  rintro i ⟨es,N⟩ hi hK
  dsimp only at hK ⊢
  by_cases hlt:i<n
  ·obtain ⟨x,_,r,h1,⟨rfl,-⟩,h3⟩:=e1 i hlt
   rw [Zke,List.getElem?_range hlt] at h1
   cases h1
   replace h3:cs.drop (i*1)=[.int .i64 (a+(i:Int))]++r:=h3
   conv=>whnf
   repeat' (first|(refine Ai rfl k1 rfl hlt h3 ?_;conv=>whnf)|(refine EHead.mk rfl ?_;conv=>whnf)|(refine H0 rfl rfl rfl rfl hK (fun es' N' hK'=>?_);conv=>whnf)|((refine w1 rfl rfl ?_ ?_) <;> intro _ <;> first|(exfalso;omega)|(conv=>whnf))|((first|refine w7 rfl rfl (by omega) ?_|refine ⟨rfl,?_⟩);conv=>whnf)|fail)
   refine ⟨hlt,(es',N'),hK',Abs.tells (rs:=[0]) ⟨by decide,⟨t9,r9,r9,t9,r9,r9,trivial⟩,⟨⟨Ds rfl hK',?_⟩,trivial⟩⟩⟩
   show _=some (AObj.map (BI _ es') N');rw [Dq rfl hK'];rfl
  ·obtain rfl:i=n:=by omega
   conv=>whnf
   repeat' (first|(refine Ac rfl k2 ?_;conv=>whnf)|((refine w1 rfl rfl ?_ ?_) <;> intro _ <;> first|(exfalso;omega)|(conv=>whnf))|fail)
   refine A0 hE n' (fun j=>[(15,.map 0),(68,u'),(69,.int .i64 (n':Int)),(70,.int .i64 (j:Int))]) (fun j=>[.map es N]) (fun j=>∀ k<j,¬(a'+(k:Int) ∈ ET a i∧(2:Int)=2)) (fun k h=>by omega) (Abs.tells (rs:=[0]) ⟨by decide,⟨r9,t9,r9,r9,trivial⟩,⟨⟨Ds rfl hK,?_⟩,trivial⟩⟩) ?_
   ·show _=some (AObj.map (BI _ es) N);rw [Dq rfl hK];rfl
   intro j hj hJ
   by_cases hjl:j<n'
   ·obtain ⟨x,_,r,h1,⟨rfl,-⟩,h3⟩:=e2 j hjl
    rw [Zke,List.getElem?_range hjl] at h1
    cases h1
    replace h3:cs'.drop (j*1)=[.int .i64 (a'+(j:Int))]++r:=h3
    conv=>whnf
    repeat' (first|(refine Ai rfl k2 rfl hjl h3 ?_;conv=>whnf)|(refine EHead.mk rfl ?_;conv=>whnf)|(refine H1 rfl rfl rfl hK (fun hin=>?_) (fun hin=>?_) <;> conv=>whnf)|((first|refine w1 rfl rfl ?_ ?_|refine w3 rfl rfl ?_ ?_) <;> intro _ <;> first|(exfalso;omega)|(conv=>whnf))|((first|refine w7 rfl rfl (by omega) ?_|refine ⟨rfl,?_⟩);conv=>whnf)|fail)
    all_goals first
     | exact ft (by rw [Gb] at hin;omega) _
     | (refine ⟨hjl,AK hJ (fun q=>by first|exact hin q.1|exact absurd q.2 (by decide)),Abs.tells (rs:=[0]) ⟨by decide,⟨r9,t9,r9,r9,trivial⟩,⟨⟨Ds rfl hK,?_⟩,trivial⟩⟩⟩
        show _=some (AObj.map (BI _ es) N);rw [Dq rfl hK];rfl)
   ·conv=>whnf
    repeat' (first|((refine w1 rfl rfl ?_ ?_) <;> intro _ <;> first|(exfalso;omega)|(conv=>whnf))|fail)
    exact ff (fun q=>hJ (if a'≤a then (a-a').toNat else 0) (by split <;> omega) ⟨by rw [Gb];split <;> omega,rfl⟩) _
 ·replace ft:=fun q=>ft ⟨by simp,q⟩
  replace ff:=fun (q:¬(a<a'+(n':Int)∧a'<a+(n:Int)))=>ff fun q'=>q q'.2
  clear hof1 hof2 hs1 hs2
  refine Jm hE (β:=List (AV×AV×Nat)×Nat) n (fun i b=>[(10,u'),(15,.map 0),(16,.int .i64 2),(58,u),(59,.int .i64 (n:Int)),(60,.int .i64 (i:Int))]) (fun i b=>[.map b.1 b.2]) (fun i b=>KM (.int .i64 2) b.1 (ET a i)) ([],0) (KM.nil _) (Abs.tells (rs:=[5]) ⟨by decide,⟨t9,r9,r9,t9,r9,r9,trivial⟩,⟨r9,trivial⟩⟩) ?_
  rintro i ⟨es,N⟩ hi hK
  dsimp only at hK ⊢
  by_cases hlt:i<n
  ·obtain ⟨x,_,r,h1,⟨rfl,-⟩,h3⟩:=e1 i hlt
   rw [Zke,List.getElem?_range hlt] at h1
   cases h1
   replace h3:cs.drop (i*1)=[.int .i64 (a+(i:Int))]++r:=h3
   conv=>whnf
   repeat' (first|(refine Ai rfl k1 rfl hlt h3 ?_;conv=>whnf)|(refine EHead.mk rfl ?_;conv=>whnf)|(refine H0 rfl rfl rfl rfl hK (fun es' N' hK'=>?_);conv=>whnf)|((refine w1 rfl rfl ?_ ?_) <;> intro _ <;> first|(exfalso;omega)|(conv=>whnf))|((first|refine w7 rfl rfl (by omega) ?_|refine ⟨rfl,?_⟩);conv=>whnf)|fail)
   refine ⟨hlt,(es',N'),hK',Abs.tells (rs:=[0]) ⟨by decide,⟨t9,r9,r9,t9,r9,r9,trivial⟩,⟨⟨Ds rfl hK',?_⟩,trivial⟩⟩⟩
   show _=some (AObj.map (BI _ es') N');rw [Dq rfl hK'];rfl
  ·obtain rfl:i=n:=by omega
   conv=>whnf
   repeat' (first|(refine Ac rfl k2 ?_;conv=>whnf)|((refine w1 rfl rfl ?_ ?_) <;> intro _ <;> first|(exfalso;omega)|(conv=>whnf))|fail)
   refine A0 hE n' (fun j=>[(15,.map 0),(68,u'),(69,.int .i64 (n':Int)),(70,.int .i64 (j:Int))]) (fun j=>[.map es N]) (fun j=>∀ k<j,¬(a'+(k:Int) ∈ ET a i∧(2:Int)=2)) (fun k h=>by omega) (Abs.tells (rs:=[0]) ⟨by decide,⟨r9,t9,r9,r9,trivial⟩,⟨⟨Ds rfl hK,?_⟩,trivial⟩⟩) ?_
   ·show _=some (AObj.map (BI _ es) N);rw [Dq rfl hK];rfl
   intro j hj hJ
   by_cases hjl:j<n'
   ·obtain ⟨x,_,r,h1,⟨rfl,-⟩,h3⟩:=e2 j hjl
    rw [Zke,List.getElem?_range hjl] at h1
    cases h1
    replace h3:cs'.drop (j*1)=[.int .i64 (a'+(j:Int))]++r:=h3
    conv=>whnf
    repeat' (first|(refine Ai rfl k2 rfl hjl h3 ?_;conv=>whnf)|(refine EHead.mk rfl ?_;conv=>whnf)|(refine H1 rfl rfl rfl hK (fun hin=>?_) (fun hin=>?_) <;> conv=>whnf)|((first|refine w1 rfl rfl ?_ ?_|refine w3 rfl rfl ?_ ?_) <;> intro _ <;> first|(exfalso;omega)|(conv=>whnf))|((first|refine w7 rfl rfl (by omega) ?_|refine ⟨rfl,?_⟩);conv=>whnf)|fail)
    all_goals first
     | exact ft (by rw [Gb] at hin;omega) _
     | (refine ⟨hjl,AK hJ (fun q=>by first|exact hin q.1|exact absurd q.2 (by decide)),Abs.tells (rs:=[0]) ⟨by decide,⟨r9,t9,r9,r9,trivial⟩,⟨⟨Ds rfl hK,?_⟩,trivial⟩⟩⟩
        show _=some (AObj.map (BI _ es) N);rw [Dq rfl hK];rfl)
   ·conv=>whnf
    repeat' (first|((refine w1 rfl rfl ?_ ?_) <;> intro _ <;> first|(exfalso;omega)|(conv=>whnf))|fail)
    exact ff (fun q=>hJ (if a'≤a then (a-a').toNat else 0) (by split <;> omega) ⟨by rw [Gb];split <;> omega,rfl⟩) _
def Zi3:AC:=match Nd with|.mk c _=>c
def Zi2:AC:=match Nc with|.mk c _=>c
noncomputable def fbkF:Fn (Fl×Int×Unit):=bF (.g ftC (.v i64C .nil)) (fun x=>0≤x.2.1∧x.2.1<x.1.2.2.1.length∧x.2.1<x.1.2.2.2.1.length∧x.2.1<x.1.2.2.2.2.length) fun x=>Fy x.1 x.2.1.toNat
set_option maxHeartbeats 2000000 in
theorem Zc7 (hE:EM P e) (h210:Inl e 210 Zi3 [.tmp 2]) (h211:Inl e 211 Zi2 [.tmp 2]):OvOk P 190 fbkF.O:=by
 refine Bl hE g190 ?_
 rintro ⟨⟨n,⟨k,a,m,d⟩,st,sq,da⟩,j,_⟩ _ ⟨_,_,rfl,hf,_,_,rfl,⟨e1,-⟩,rfl⟩ ⟨q1,q2,q3,q4⟩ K t f
 cases e1
 obtain ⟨dv,tv,qv,av,rfl,o1,o2,o3,o4,h1,h2,h3,h4⟩:=CW hf
 dsimp only at q1 q2 q3 q4
 obtain ⟨i,rfl⟩:∃ i:Nat,j=i:=⟨j.toNat,by omega⟩
 obtain ⟨ts,hs1,-,hn1⟩:=h2.nth
 obtain ⟨qs,hs2,-,hn2⟩:=h3.nth
 obtain ⟨es,hs3,-,hn3⟩:=h4.nth
 obtain ⟨s,_,r1,hx1,⟨rfl,hlt⟩,hd1⟩:=hn1 i (by omega)
 obtain ⟨q,_,r2,hx2,⟨rfl,hq⟩,hd2⟩:=hn2 i (by omega)
 obtain ⟨b,_,r3,hx3,⟨u,rfl,hu⟩,hd3⟩:=hn3 i (by omega)
 obtain ⟨us,hus,-⟩:=hu.nth
 have hq:=HJ hq
 unfold Bm at hq
 have hi1:i<st.length:=by omega
 have hi2:i<sq.length:=by omega
 have hi3:i<da.length:=by omega
 unfold Fy at t f
 dsimp only at t f
 rw [Int.toNat_natCast,hx1,hx2,hx3] at t f
 unfold PA at t f
 dsimp only [Option.getD] at t f
 generalize b.length=bn at t f hus
 clear hx3 hu hf h1 h2 h3 h4 hn1 hn2 hn3 q1 q2 q3 q4
 change VW P e 0 _ (Al [_,.int .i64 (i:Int)] 0 .lf) St0 none [] _
 conv=>whnf
 repeat' (first|(refine Ai rfl hs1 rfl hi1 hd1 ?_;conv=>whnf)|(refine Ai rfl hs2 rfl hi2 hd2 ?_;conv=>whnf)|(refine Ai rfl hs3 rfl hi3 hd3 ?_;conv=>whnf)|(refine EHead.mk rfl ?_;conv=>whnf)|(refine Ac rfl hus ?_;conv=>whnf)|(refine Ay (cs:=[.int .u8 (k:Int),.int .i64 a,.int .i64 m,dv]) rfl ?_;conv=>whnf)|(refine ESc.inl h210 ?_;conv=>whnf)|(refine ESc.inl h211 ?_;conv=>whnf)|((first|refine w3 rfl rfl ?_ ?_|refine w5 rfl rfl ?_ ?_) <;> intro _ <;> first|(exfalso;omega)|(conv=>whnf))|((first|refine w15 rfl rfl ?_|refine ⟨rfl,?_⟩);conv=>whnf)|fail)
 all_goals first
  | exact t (by omega) _
  | exact f (by omega) _
noncomputable def fonF:Fn (Cfg×Fl×Unit):=bF (.g cfgC (.g ftC .nil)) (fun x=>x.1.may) fun x=>Io x.1 x.2.1
set_option maxHeartbeats 2000000 in
theorem Zcu (hE:EM P e) (h189:Con e 189 sblF.O) (h190:Con e 190 fbkF.O):OvOk P 150 fonF.O:=by
 refine Bl hE g150 ?_
 rintro ⟨c,⟨n,⟨k,a,m,d⟩,st,sq,da⟩,_⟩ _ ⟨_,_,rfl,⟨rfl,hc⟩,_,_,rfl,hf,rfl⟩ hM K t f
 have hM:c.may:=hM
 obtain ⟨dv,tv,qv,av,rfl,o1,o2,o3,o4,h1,h2,h3,h4⟩:=CW hf
 have hrow:=ftC.hf hf
 have hak:=Jl o2 o3 o4 h1
 obtain ⟨ts,hs1,hl1,-⟩:=h2.nth
 obtain ⟨qs,hs2,hl2,-⟩:=h3.nth
 obtain ⟨es,hs3,hl3,-⟩:=h4.nth
 dsimp only at t f hf hc
 have hc1:=fun (Q:AV→St→Prop) s q=>@Fn.u _ e 189 s Q sblF _ h189 (c,(k,a,m,d),()) ⟨_,_,rfl,⟨rfl,hc⟩,_,_,rfl,hak,rfl⟩ hM q
 have hc2:=fun (i:Nat) (h0:i<st.length) (hi:i<st.length∧i<sq.length∧i<da.length) (Q:AV→St→Prop) s a' b=>@bF.u _ _ _ _ e 190 s Q [_,.int .i64 (i:Int)] h190 ((n,(k,a,m,d),st,sq,da),(i:Int),()) ⟨_,_,rfl,hf,_,_,rfl,⟨rfl,Bg (show Ad (i:Int) by unfold Ad;omega)⟩,rfl⟩ ⟨Zky _,Int.ofNat_lt.2 hi.1,Int.ofNat_lt.2 hi.2.1,Int.ofNat_lt.2 hi.2.2⟩ a' b
 replace hc2:∀ i:Nat,i<st.length→i<sq.length→i<da.length→∀ (Q:AV→St→Prop) s,(Fy (n,(k,a,m,d),st,sq,da) i→Q (.bool true) s)→(¬Fy (n,(k,a,m,d),st,sq,da) i→Q (.bool false) s)→ESc e 190 [.agg [.int .i64 n,.int .u8 (k:Int),.int .i64 a,.int .i64 m,dv,tv,qv,av],.int .i64 (i:Int)] s Q:=fun i h1 h2 h3 Q s a b=>hc2 i h1 ⟨h1,h2,h3⟩ Q s a b
 have hk:Bu c (k,a,m,d)→0≤m∧m≤8∧(k=4→m=0):=fun h=>by unfold Bu at h;omega
 replace hc1:∀ (Q:AV→St→Prop) s,Q (if B7 c (k,a,m,d)=0 then .tup [FJ a m.toNat,.int .i64 0] else .tup [.nils,.int .i64 (B7 c (k,a,m,d))]) s→ESc e 189 [.agg c.c,.agg [.int .u8 (k:Int),.int .i64 a,.int .i64 m,dv]] s Q:=hc1
 unfold Io at t f
 dsimp only at t f
 unfold Ad at o1 o3 o4
 change VW P e 0 _ (Al [.agg c.c,_] 0 .lf) St0 none [] _
 by_cases hA:Bu c (k,a,m,d)
 ·have hm:=hk hA
  have hsm:=LU hM hA
  rw [Zjj (akE_iff.2 hA)] at hc1
  generalize hP:Fy (n,(k,a,m,d),st,sq,da)=R at t f hc2
  have hL:=OF (a:=a) (n:=m.toNat) (fun i hi=>by unfold Ad;omega) (by omega)
  generalize FJ a m.toNat=u at *
  have huf:=hL.hf
  obtain ⟨us,hus,-,-⟩:=hL.nth
  rw [Zjm,List.length_range] at hus
  conv=>whnf
  repeat' (first|(refine hc1 _ _ ?_;conv=>whnf)|(refine Ac rfl hus ?_;conv=>whnf)|(refine Ac rfl hs1 ?_;conv=>whnf)|(refine Ac rfl hs2 ?_;conv=>whnf)|(refine Ac rfl hs3 ?_;conv=>whnf)|((first|refine w1 rfl rfl ?_ ?_|refine w5 rfl rfl ?_ ?_|refine w6 rfl rfl ?_ ?_) <;> intro _ <;> first|(exfalso;omega)|(conv=>whnf))|fail)
  all_goals try exact f (fun q=>by omega) _
  all_goals
   have g1:1≤n:=by omega
   have g2:(st.length:Int)=m:=by omega
   have g3:(da.length:Int)=m:=by omega
   have g4:k≠4→(sq.length:Int)=m:=by omega
   have g5:k=4→sq.length=1:=by omega
   refine A0 hE st.length (fun i=>[(3,.ptr 1 0),(53,.int .i64 (st.length:Int)),(54,.int .i64 (i:Int))]) (fun _=>[.row 24 c.c,.row 143 [.int .i64 n,.int .u8 (k:Int),.int .i64 a,.int .i64 m,dv,tv,qv,av]]) (fun i=>∀ j<i,R j) (fun k h=>by omega) (Abs.tells (rs:=[0,1]) ⟨by decide,⟨r9,⟨rfl,?_⟩,r9,trivial⟩,⟨⟨Ab rfl,by rw [Aa rfl];rfl⟩,⟨Ab hrow,by rw [Aa hrow];rfl⟩,trivial⟩⟩) ?_
   ·show some (AV.int .i64 ((m.toNat:Nat):Int))=some (.int .i64 (st.length:Int));rw [show m.toNat=st.length by omega]
   intro i hi hI
   by_cases hlt:i<st.length
   ·have hc2:=hc2 i hlt (by omega) (by omega)
    conv=>whnf
    repeat' (first|(refine Ay (cs:=[.int .i64 n,.int .u8 (k:Int),.int .i64 a,.int .i64 m,dv,tv,qv,av]) rfl ?_;conv=>whnf)|(refine hc2 _ _ (fun hq=>?_) (fun hq=>?_) <;> conv=>whnf)|((refine w1 rfl rfl ?_ ?_) <;> intro _ <;> first|(exfalso;omega)|(conv=>whnf))|((first|refine w7 rfl rfl (by omega) ?_|refine w12 rfl ?_|refine w13 rfl ?_|refine ⟨rfl,?_⟩);conv=>whnf)|fail)
    all_goals first
     | exact ⟨hlt,AK hI hq,Abs.tells (rs:=[0,1]) ⟨by decide,⟨r9,r9,r9,trivial⟩,⟨⟨Ab rfl,by rw [Aa rfl];rfl⟩,⟨Ab hrow,by rw [Aa hrow];rfl⟩,trivial⟩⟩⟩
     | exact f (fun q=>hq (q.2.2.2.2.2.2 i hlt)) _
   ·conv=>whnf
    repeat' (first|((refine w1 rfl rfl ?_ ?_) <;> intro _ <;> first|(exfalso;omega)|(conv=>whnf))|fail)
    exact t ⟨g1,hA,g2,g3,g4,g5,fun j hj=>hI j (by omega)⟩ _
 ·have hne:=mt akE_iff.1 hA
  rw [Zjn hne] at hc1
  generalize B7 c (k,a,m,d)=E at *
  conv=>whnf
  repeat' (first|(refine hc1 _ _ ?_;conv=>whnf)|(refine Ac rfl (show Sl 1 0 [] .nils from .inl ⟨rfl,rfl,rfl⟩) ?_;conv=>whnf)|((first|refine w5 rfl rfl ?_ ?_|refine w6 rfl rfl ?_ ?_) <;> intro _ <;> first|(exfalso;omega)|(conv=>whnf))|fail)
  all_goals first
   | exact f (fun q=>hA q.2.1) _
   | exact absurd (by assumption) hne
def Zi4:AC:=match Nh with|.mk c _=>c
def Zi5:AC:=match Np with|.mk c _=>c
def Qg (c:Cfg×List Fl×Int×Unit) (xs:List Fl):Prop:=c.1.may∧(0≤c.2.2.1∧c.2.2.1<c.2.1.length)∧(∀ y,c.2.1[c.2.2.1.toNat]?=some y→Bu c.1 y.2.1)∧∀ x ∈ xs,Bu c.1 x.2.1
def J4 (c:Cfg×List Fl×Int×Unit) (x:Fl):Prop:=∀ y,c.2.1[c.2.2.1.toNat]?=some y→Fi x.2.1 y.2.1
abbrev f1H:Sg (Cfg×List Fl×Int×Unit):=.p cfgC (.p ftC.sl (.p i64C .nil))
noncomputable def ix192:Fn (List Fl×(Cfg×List Fl×Int×Unit)×Unit):=Cp ftC 192 f1H Qg J4
theorem Zec (h192:Inl e 192 Zi4 [.tmp 5]) (h193:Con e 193 tchF.O):Es e ftC AV.agg 192 f1H Qg J4:=by
 rintro ⟨c,L,a,_⟩ q xs ⟨n,⟨k,at',m,d⟩,st,sq,da⟩ l ⟨_,_,rfl,⟨rfl,hc⟩,_,_,rfl,⟨lv,rfl,hL⟩,_,_,rfl,⟨rfl,ha⟩,rfl⟩ ⟨hM,ha0,hy,hxs⟩ hmem hx Q t f
 dsimp only at hc hL ha hM ha0 hy hxs
 have hkx:=hxs _ hmem
 obtain ⟨dv,tv,qv,av,rfl,o1,o2,o3,o4,h1,-⟩:=CW hx
 obtain ⟨cs,hs,hl,hn⟩:=hL.nth
 obtain ⟨⟨n',⟨k',a',m',d'⟩,st',sq',da'⟩,_,r,hx',hxr,hd⟩:=hn a.toNat (by omega)
 have hky:=hy _ hx'
 obtain ⟨dv',tv',qv',av',rfl,p1,p2,p3,p4,g1,-⟩:=CW hxr
 unfold J4 at t f
 dsimp only at t f hkx hky
 rw [hx'] at t f
 have hcall:=fun (Q:AV→St→Prop) s q=>@Fn.u _ e 193 s Q tchF [.agg c.c,.agg [.int .u8 (k:Int),.int .i64 at',.int .i64 m,dv],.agg [.int .u8 (k':Int),.int .i64 a',.int .i64 m',dv']] h193 (c,(k,at',m,d),(k',a',m',d'),()) ⟨_,_,rfl,⟨rfl,hc⟩,_,_,rfl,Jl o2 o3 o4 h1,_,_,rfl,Jl p2 p3 p4 g1,rfl⟩ ⟨hM,hkx,hky⟩ q
 replace hcall:∀ (Q:AV→St→Prop) s,Q (.tup [pB (Fi (k,at',m,d) (k',a',m',d')),.int .i64 0]) s→ESc e 193 [.agg c.c,.agg [.int .u8 (k:Int),.int .i64 at',.int .i64 m,dv],.agg [.int .u8 (k':Int),.int .i64 a',.int .i64 m',dv']] s Q:=hcall
 refine ECall.inl h192.O h192.G ?_
 change VE e _ (Al [.agg [.int .i64 n,.int .u8 (k:Int),.int .i64 at',.int .i64 m,dv,tv,qv,av],.fp c.c,.fp [lv],.fp [.int .i64 a]] 0 .lf) _ none [] _
 classical
 by_cases hm:Fi (k,at',m,d) (k',a',m',d')
 all_goals
  unfold pB at hcall
  first|rw [Zjk hm] at hcall|rw [Zjw hm] at hcall
  conv=>whnf
  repeat' (first|(refine Ay (cs:=c.c) rfl ?_;conv=>whnf)|(refine EHead.mk rfl ?_;conv=>whnf)|(refine Cm rfl hs rfl (show a=(a.toNat:Nat) by omega) (by omega) hd ?_;conv=>whnf)|(refine Ay (cs:=[.int .u8 (k':Int),.int .i64 a',.int .i64 m',dv']) rfl ?_;conv=>whnf)|(refine hcall _ _ ?_;conv=>whnf)|fail)
  first
   | exact t (fun y e=>by cases e;exact hm) _
   | exact f (fun q=>hm (q _ rfl)) _
noncomputable def ffsF:Fn (Cfg×List Fl×Int×Unit):=bF (.g cfgC (.v ftC.sl (.v i64C .nil))) (fun x=>x.1.may∧(0≤x.2.2.1∧x.2.2.1<x.2.1.length)∧∀ k:Nat,(k:Int)≤x.2.2.1→∀ y,x.2.1[k]?=some y→Bu x.1 y.2.1) fun x=>F5 x.2.1 x.2.2.1.toNat
theorem Zc4 (hE:EM P e) (h107:Inl e 107 PL [.tmp 4]) (h154:Con e 154 (relS (BB ix192.R))):OvOk P 153 ffsF.O:=by
 refine Bl hE g153 ?_
 rintro ⟨c,L,a,_⟩ _ ⟨_,_,rfl,⟨rfl,hc⟩,v,_,rfl,⟨_,e0,hL⟩,_,_,rfl,⟨e1,z1⟩,rfl⟩ ⟨hM,ha0,hk⟩ K t f
 cases e0
 cases e1
 dsimp only at hc hL hM ha0 hk t f
 have hvf:=hL.hf
 have hok:Qg (c,L,a,()) (L.take a.toNat):=⟨hM,ha0,fun y h=>hk a.toNat (by omega) y h,fun x hx=>by
  obtain ⟨i,hi⟩:=Zk6 hx
  rw [Zks] at hi
  split at hi
  ·exact hk i (by omega) x hi
  ·cases hi⟩
 have hidx:=fun (u:AV) (hu:Ls ftC (L.take a.toNat) u) (Q:AV→St→Prop) s k r0 r1 r2 (g0:s.get r0=some (.row 24 c.c)) (g1:s.get r1=some (.row 31 [v])) (g2:s.get r2=some (.row 3 [.int .i64 a]))=>@GT _ ix192 e 154 s Q h154 u 192 [.ptr r0 0,.ptr r1 0,.ptr r2 0] [.fp c.c,.fp [v],.fp [.int .i64 a]] (L.take a.toNat,(c,L,a,()),()) ⟨_,_,rfl,⟨_,rfl,hu⟩,_,_,rfl,⟨_,_,rfl,⟨rfl,hc⟩,_,_,rfl,⟨_,rfl,hL⟩,_,_,rfl,⟨rfl,z1⟩,rfl⟩,rfl⟩ hok (.cons ⟨r0,24,_,rfl,rfl,g0,rfl⟩ (.cons ⟨r1,31,_,rfl,rfl,g1,by show (AM.hf v && true)=true;rw [hvf];rfl⟩ (.cons ⟨r2,3,_,rfl,rfl,g2,rfl⟩ .nil))) rfl k
 have hpe:(∃ x ∈ L.take a.toNat,J4 (c,L,a,()) x)↔¬F5 L a.toNat:=by
  unfold F5 J4
  dsimp only
  obtain ⟨y,hy⟩:∃ y,L[a.toNat]?=some y:=⟨_,Zjf (by omega)⟩
  rw [hy]
  constructor
  ·rintro ⟨x,hx,hp⟩ h
   obtain ⟨i,hi⟩:=Zk6 hx
   rw [Zks] at hi
   split at hi
   ·exact h y rfl i (by omega) x hi (hp y rfl)
   ·cases hi
  ·intro h
   refine Classical.byContradiction fun hn=>h fun z hz i hi x hx hm=>hn ⟨x,Zj1 (i:=i) (by rw [Zks,Zjj hi];exact hx),fun w hw=>?_⟩
   cases hz;cases hw;exact hm
 change VW P e 0 _ (Al [.agg c.c,v,.int .i64 a] 0 .lf) St0 none [] _
 obtain ⟨i,rfl⟩:∃ i:Nat,a=i:=⟨a.toNat,by omega⟩
 rw [Int.toNat_natCast] at *
 have hcl:=hL.cell
 conv=>whnf
 repeat' (first|(refine IN (by show Nat.beq (AR (cellsOf v)) 1=true;rw [hcl];rfl) ?_;conv=>whnf)|(refine EA v (by show load1 1 0 _=_;exact RN (r:=1) (e:=31) (cs:=[v]) (by show some (AObj.row 31 (cellsOf v))=_;rw [hcl]) rfl) ?_;conv=>whnf)|(refine NU rfl hL rfl rfl (show i≤L.length by omega) (fun u hu=>?_);conv=>whnf)|(refine Ul h107 (p:=J4 (c,L,(i:Int),())) (xs:=L.take i) (fun Q k=>hidx u hu Q _ k _ _ _ rfl (by show some (AObj.row 31 (cellsOf v))=_;rw [hcl]) rfl) (fun q=>?_) (fun q=>?_) <;> conv=>whnf)|((first|refine w12 rfl ?_|refine w13 rfl ?_);conv=>whnf)|fail)
 ·exact f (hpe.1 q) _
 ·exact t (Classical.byContradiction fun h=>q (hpe.2 h)) _
noncomputable def ix152:Fn (List Nat×Unit×Unit):=Cp Ce.u8 152 .nil (fun _ _=>True) fun _ s=>s≠0
theorem Zef (h152:Inl e 152 Zi5 [.tmp 2]):Es e Ce.u8 one 152 .nil (fun _ _=>True) (fun (_:Unit) s=>s≠0):=by
 rintro c q xs s l rfl _ _ ⟨rfl,hs⟩ Q y n
 refine ECall.inl h152.O h152.G ?_
 change VE e _ (Al [.int .u8 (s:Int)] 0 .lf) _ none [] _
 conv=>whnf
 repeat' (first|((refine w6 rfl rfl ?_ ?_) <;> intro _ <;> first|(exfalso;omega)|(conv=>whnf))|fail)
 all_goals first
  | exact y (by omega) _
  | exact n (by omega) _
noncomputable def fchF:Fn (Cfg×List Fl×Unit):=cF (.g cfgC (.v ftC.sl .nil)) (fun _=>True) fun x=>x.1.may∧Eu x.1 x.2.1
set_option maxHeartbeats 2000000 in
theorem Zc6 (hE:EM P e) (h103:Con e 103 cfgF.O) (h150:Con e 150 fonF.O) (h151:Inl e 151 UP [.tmp 4]) (h153:Con e 153 ffsF.O) (h191:Con e 191 (relS (BB ix152.R))):OvOk P 106 fchF.O:=by
 refine Ic hE g106 ?_
 rintro ⟨c,L,_⟩ _ ⟨_,_,rfl,⟨rfl,hc⟩,v,_,rfl,⟨_,e0,hL⟩,rfl⟩-K t f
 cases e0
 dsimp only at t f hc hL
 have hvf:=hL.hf
 obtain ⟨cs,hs',hl,hn⟩:=hL.nth
 change VW P e 0 _ (Al [.agg c.c,v] 0 .lf) St0 none [] _
 by_cases hM:c.may
 ·have hcf:=PN h103 hc hM
  replace t:=fun q=>t ⟨hM,q⟩
  replace f:=fun (q:¬Eu c L)=>f fun q'=>q q'.2
  have hc2:=fun y l (hy:ftC.r y l) (Q:AV→St→Prop) s a b=>@bF.u _ _ _ _ e 150 s Q [.agg c.c,.agg l] h150 (c,y,()) ⟨_,_,rfl,⟨rfl,hc⟩,_,_,rfl,hy,rfl⟩ hM a b
  have hc4:∀ i:Nat,i<L.length→(∀ k≤i,∀ y,L[k]?=some y→Bu c y.2.1)→∀ (Q:AV→St→Prop) s,(F5 L i→Q (.bool true) s)→(¬F5 L i→Q (.bool false) s)→ESc e 153 [.agg c.c,v,.int .i64 (i:Int)] s Q:=fun i hi hS Q s a b=>@bF.u _ _ _ _ e 153 s Q _ h153 (c,L,(i:Int),()) ⟨_,_,rfl,⟨rfl,hc⟩,_,_,rfl,⟨_,rfl,hL⟩,_,_,rfl,⟨rfl,Bg (show Ad (i:Int) by unfold Ad;omega)⟩,rfl⟩ ⟨hM,⟨Zky _,Int.ofNat_lt.2 hi⟩,fun k hk=>hS k (Int.ofNat_le.1 hk)⟩ a b
  have hc3:=fun (st:List Nat) (u:AV) (hu:Ls Ce.u8 st u) (Q:AV→St→Prop) s k=>@GT _ ix152 e 191 s Q h191 u 152 [] [] (st,(),()) ⟨_,_,rfl,⟨_,rfl,hu⟩,_,_,rfl,rfl,rfl⟩ trivial .nil rfl k
  replace hc3:=fun (st:List Nat) (u:AV) (hu:Ls Ce.u8 st u) (Q:AV→St→Prop) s y n=>Zhj (k:=Q) (s:=s) h151 (p:=fun (s:Nat)=>s≠0) (xs:=st) (fun Q k=>hc3 st u hu Q s k) y n
  unfold Eu at t f
  conv=>whnf
  repeat' (first|(refine hcf _ _ ?_;conv=>whnf)|(refine Ac rfl hs' ?_;conv=>whnf)|((first|refine w3 rfl rfl ?_ ?_|refine w6 rfl rfl ?_ ?_) <;> intro _ <;> first|(exfalso;omega)|(conv=>whnf))|fail)
  ·exact f (fun q=>by omega) _
  have h8:L.length≤8:=by omega
  refine A0 hE L.length (fun i=>[(1,v),(2,.ptr 0 0),(16,v),(17,.int .i64 (L.length:Int)),(18,.int .i64 (i:Int))]) (fun _=>[.row 24 c.c]) (fun i=>∀ k<i,∀ y,L[k]?=some y→Gv c L k y) (fun k h=>by omega) (Abs.tells (rs:=[0]) ⟨by decide,⟨t9,r9,t9,r9,r9,trivial⟩,⟨⟨Ab rfl,by rw [Aa rfl];rfl⟩,trivial⟩⟩) ?_
  intro i hi hI
  by_cases hlt:i<L.length
  ·obtain ⟨y,l,r,hx,hcr,hd'⟩:=hn i hlt
   have hN:¬Gv c L i y→∀ s,K (.int .i64 8) s:=fun h=>f fun q=>h (q.2 i hlt y hx)
   have hT:Gv c L i y→∀ k<i+1,∀ y,L[k]?=some y→Gv c L k y:=fun h=>AK hI fun z hz=>by rw [hx] at hz;cases hz;exact h
   have hc2:=hc2 y l hcr
   have hc4:=fun h=>hc4 i hlt fun j hk z hz=>(by
    rcases Nat.lt_or_eq_of_le hk with hk|rfl
    ·obtain ⟨n,⟨k,a,m,d⟩,st,sq,da⟩:=z
     exact (hI j hk _ hz).1.2.1
    ·rw [hx] at hz;cases hz;exact h:Bu c z.2.1)
   obtain ⟨n,⟨k,a,m,d⟩,st,sq,da⟩:=y
   obtain ⟨dv,tv,qv,av,rfl,o1,o2,o3,o4,-,h2,-⟩:=CW hcr
   have hc3:=hc3 st tv h2
   have hwt:¬(∃ x ∈ st,x≠0)↔Pa (n,(k,a,m,d),st,sq,da):=by
    unfold Pa
    dsimp only
    constructor
    ·intro h j hj s hs
     exact Classical.byContradiction fun q=>h ⟨s,Zj1 hs,q⟩
    ·rintro h ⟨s,hs,q⟩
     obtain ⟨j,hj⟩:=Zk6 hs
     exact q (h j (Zjg.1 hj).1 s hj)
   dsimp only at hc2 hc4
   clear t f hI
   by_cases h0:0<i
   ·obtain ⟨⟨n',⟨k',a',m',d'⟩,st',sq',da'⟩,l',r',hx',hc',hd2⟩:=hn (i-1) (by omega)
    obtain ⟨dv',tv',qv',av',rfl,-⟩:=CW hc'
    conv=>whnf
    repeat' (first|(refine Cm rfl hs' rfl (show (i:Int)-1=((i-1:Nat):Int) by omega) (by omega) hd2 ?_;conv=>whnf)|(refine Ai rfl hs' rfl hlt hd' ?_;conv=>whnf)|(refine Ay (cs:=[.int .i64 n,.int .u8 (k:Int),.int .i64 a,.int .i64 m,dv,tv,qv,av]) rfl ?_;conv=>whnf)|(refine EHead.mk rfl ?_;conv=>whnf)|(refine hc2 _ _ (fun hq=>?_) (fun hq=>?_) <;> conv=>whnf)|(refine hc3 _ _ (fun hw=>?_) (fun hw=>?_) <;> conv=>whnf)|(refine hc4 hq.2.1 _ _ (fun hr=>?_) (fun hr=>?_) <;> conv=>whnf)|((first|refine w1 rfl rfl ?_ ?_|refine w2 rfl rfl ?_ ?_|refine w3 rfl rfl ?_ ?_) <;> intro _ <;> first|(exfalso;omega)|(conv=>whnf))|((first|refine w7 rfl rfl (by omega) ?_|refine w8 rfl rfl (by omega) ?_|refine w12 rfl ?_|refine w13 rfl ?_|refine ⟨rfl,?_⟩);conv=>whnf)|fail)
    all_goals first
     | exact hN (fun q=>hq q.1) _
     | exact hN (fun q=>by have:=q.2.1 h0 _ hx';dsimp only at this;omega) _
     | exact hN (fun q=>q.2.2.elim (fun w=>hwt.2 w hw) hr) _
     | exact ⟨hlt,hT ⟨hq,fun _ x hx2=>by rw [hx'] at hx2;cases hx2;dsimp only;omega,.inr hr⟩,Abs.tells (rs:=[0]) ⟨by decide,⟨t9,r9,t9,r9,r9,trivial⟩,⟨⟨Ab rfl,by rw [Aa rfl];rfl⟩,trivial⟩⟩⟩
     | exact ⟨hlt,hT ⟨hq,fun _ x hx2=>by rw [hx'] at hx2;cases hx2;dsimp only;omega,.inl (hwt.1 hw)⟩,Abs.tells (rs:=[0]) ⟨by decide,⟨t9,r9,t9,r9,r9,trivial⟩,⟨⟨Ab rfl,by rw [Aa rfl];rfl⟩,trivial⟩⟩⟩
   ·conv=>whnf
    repeat' (first|(refine Ai rfl hs' rfl hlt hd' ?_;conv=>whnf)|(refine Ay (cs:=[.int .i64 n,.int .u8 (k:Int),.int .i64 a,.int .i64 m,dv,tv,qv,av]) rfl ?_;conv=>whnf)|(refine EHead.mk rfl ?_;conv=>whnf)|(refine hc2 _ _ (fun hq=>?_) (fun hq=>?_) <;> conv=>whnf)|(refine hc3 _ _ (fun hw=>?_) (fun hw=>?_) <;> conv=>whnf)|(refine hc4 hq.2.1 _ _ (fun hr=>?_) (fun hr=>?_) <;> conv=>whnf)|((first|refine w1 rfl rfl ?_ ?_|refine w3 rfl rfl ?_ ?_) <;> intro _ <;> first|(exfalso;omega)|(conv=>whnf))|((first|refine w7 rfl rfl (by omega) ?_|refine w12 rfl ?_|refine w13 rfl ?_|refine ⟨rfl,?_⟩);conv=>whnf)|fail)
    all_goals first
     | exact hN (fun q=>hq q.1) _
     | exact hN (fun q=>q.2.2.elim (fun w=>hwt.2 w hw) hr) _
     | exact ⟨hlt,hT ⟨hq,fun h=>absurd h h0,.inr hr⟩,Abs.tells (rs:=[0]) ⟨by decide,⟨t9,r9,t9,r9,r9,trivial⟩,⟨⟨Ab rfl,by rw [Aa rfl];rfl⟩,trivial⟩⟩⟩
     | exact ⟨hlt,hT ⟨hq,fun h=>absurd h h0,.inl (hwt.1 hw)⟩,Abs.tells (rs:=[0]) ⟨by decide,⟨t9,r9,t9,r9,r9,trivial⟩,⟨⟨Ab rfl,by rw [Aa rfl];rfl⟩,trivial⟩⟩⟩
  ·conv=>whnf
   repeat' (first|((refine w1 rfl rfl ?_ ?_) <;> intro _ <;> first|(exfalso;omega)|(conv=>whnf))|fail)
   exact t ⟨h8,fun k hk=>hI k (by omega)⟩ _
 ·have hcf:=PO h103 hc hM
  conv=>whnf
  repeat' (first|(refine hcf _ _ ?_;conv=>whnf)|((refine w6 rfl rfl ?_ ?_) <;> intro _ <;> first|(exfalso;omega)|(conv=>whnf))|fail)
  exact f (fun q=>hM q.1) _
def zLv:Lv:=⟨0,0,0,false,false,false⟩
def Db (L:List Lv) (s:Int):Lv:=if 0≤AZ L s L.length then (L[(AZ L s L.length).toNat]?).getD zLv else zLv
def FK (L:List Lv) (s:Int):Bool:=decide (0≤AZ L s L.length)
def mlsF:Fn (Dv×Int×Unit):=⟨.g dvC (.v i64C .nil),fun _=>True,fun x=>.tup [.agg (Db x.1.2.2.2.2.1.2.2.2.2 x.2.1).c,.bool (FK x.1.2.2.2.2.1.2.2.2.2 x.2.1)]⟩
def Uj:AC:=match a58 with|.mk c _=>c
def UU:AC:=match FC Uj with|some (a,_)=>a|none=>.skip
def Un:AC:=match FC Uj with|some (_,b)=>b|none=>.skip
noncomputable def PW:AT:=At [(3,.ptr 0 0),(4,.ptr 1 0),(5,.ptr 2 0),(11,.fn 155 [] [.ptr 3 0])]
theorem Zb4 (hE:EM P e) (h111:Inl e 111 OQ [.tmp 2]):OvOk P 58 mlsF.O:=by
 refine B2 g58.b ?_
 rintro ⟨⟨c,bk,⟨ev,lo,sp,po,dn,nl,br⟩,hs,⟨ag,sq,tl,us,L⟩,fs,nx,so⟩,s,_⟩ _ ⟨_,_,rfl,hd,_,_,rfl,⟨e1,z1⟩,rfl⟩ -
 cases e1
 obtain ⟨hv,lv,fv,rfl,⟨ho,o1,o2,o3,o4,o5,o6,o7,o8,oN⟩,hH,hL,hF⟩:=BE hd
 obtain ⟨ls,hs2,hl2,hn2⟩:=hL.lv
 have hvf:=hL.hf
 have hcl:=hL.cell
 refine ⟨rfl,C.of_G hE g58 ?_⟩
 have fin:∀ st x b,Db L s=x→FK L s=b→Frz st (.tup [.agg x.c,.bool b]) (mlsF.out ((c,bk,(ev,lo,sp,po,dn,nl,br),hs,(ag,sq,tl,us,L),fs,nx,so),s,())):=by
  rintro st x b rfl rfl;exact .plain _ rfl
 generalize mlsF.out _=O at fin ⊢
 unfold Db FK at fin
 change VW P e 0 _ (Al [_,.int .i64 s] 0 .lf) St0 none [] _
 conv=>whnf
 repeat' (first|(refine ESc.inl h111 ?_;conv=>whnf)|(refine IN (by show Nat.beq (AR (cellsOf lv)) 1=true;rw [hcl];rfl) ?_;rw [hcl];conv=>whnf)|fail)
 refine W.abs [(3,.ptr 0 0),(4,.ptr 1 0),(5,.ptr 2 0),(11,.fn 155 [] [.ptr 3 0])] [.row 3 [.int .i64 s],.row 128 zLv.c,.row 4 [.bool false],.row 28 [lv]] [1,2,3,4] ⟨by decide,⟨r9,r9,r9,r9,trivial⟩,⟨r9,r9,r9,⟨?_,?_⟩,trivial⟩⟩ ?_
 ·show (bd _ lv && true)=true;rw [DZ _ hvf];rfl
 ·show _=some (AObj.row 28 [Bc _ lv]);rw [DF _ hvf];rfl
 refine P3 (f:=155) (first:=[]) (cap:=[.ptr 3 0]) g155.b rfl ?_ ?_
 ·intro q hq
  have hq:q<4:=hq
  rcases q with _|_|_|_|q
  ·exact .tmp 3 (.ptr 0 0) rfl rfl
  ·exact .tmp 4 (.ptr 1 0) rfl rfl
  ·exact .tmp 5 (.ptr 2 0) rfl rfl
  ·exact .tmp 11 (.fn 155 [] [.ptr 3 0]) rfl rfl
  ·omega
 show C1 P 155 [.yld 5,.ptr 3 0] (Ae St0 [.row 3 [.int .i64 s],.row 128 zLv.c,.row 4 [.bool false],.row 28 [lv],.defd,.loop .ready none 0 PW [12,13] UU Un 4]) (fun _ s'=>K7 5 [4] PW s' _)
 refine C1.of_G hE g155 ?_;conv=>whnf
 refine Ac rfl hs2 ?_;conv=>whnf
 repeat' (first|(refine w8 rfl rfl (by omega) ?_;conv=>whnf)|fail)
 refine TK (α:=Nat) (fun j=>[(0,.yld 5),(1,.ptr 3 0),(3,.int .i64 ((j:Int)-1))]) (fun _=>[.row 3 [.int .i64 s],.row 128 zLv.c,.row 4 [.bool false],.row 28 [lv],.defd,.loop .ready none 0 PW [12,13] UU Un 4]) (fun j=>j)
  (fun j=>j≤L.length∧AZ L s L.length=AZ L s j) L.length [0,1,2,3,4,5] ⟨Zj0 _,rfl⟩ ?_ ?_
 ·refine ⟨rfl,by decide,⟨r9,r9,r9,trivial⟩,⟨r9,r9,r9,⟨?_,?_⟩,r9,r9,trivial⟩⟩
  ·show (bd _ lv && true)=true;rw [DZ _ hvf];rfl
  ·show _=some (AObj.row 28 [Bc _ lv]);rw [DF _ hvf];rfl
 rintro j ⟨hj,hh⟩
 refine Cz hE ?_;conv=>whnf
 refine DS rfl rfl (fun h=>?_) (fun h=>?_) <;> conv=>whnf
 ·obtain ⟨i,rfl⟩:∃ i,j=i+1:=⟨j-1,by omega⟩
  have hlt:i<L.length:=by omega
  obtain ⟨sq',st',bl',pa,su,ho',r,hx,hx',hd2⟩:=hn2 i hlt
  rw [show ((i+1:Nat):Int)-1=(i:Int) by omega]
  replace hh:AZ L s L.length=if L[i]?.map Lv.stripe=some s then (i:Int) else AZ L s i:=hh
  rw [hx] at hh
  replace hh:AZ L s L.length=if st'=s then (i:Int) else AZ L s i:=by
   rw [hh]
   show (if some st'=some s then (i:Int) else _)=_
   simp only [Option.some.injEq]
  refine Ai rfl hs2 rfl hlt hd2 ?_;conv=>whnf
  refine Ay (cs:=[.int .u32 sq',.int .i64 st',.int .i64 bl',.bool pa,.bool su,.bool ho']) rfl ?_;conv=>whnf
  refine ERound.mk ?_
  by_cases hse:st'=s
  ·subst hse
   rw [Zjj rfl] at hh
   rw [hh,Zjj (by omega),Int.toNat_natCast,hx,Zjk (by omega)] at fin
   conv=>whnf
   repeat' (first|((refine w5 rfl rfl ?_ ?_) <;> intro _ <;> first|(exfalso;omega)|(conv=>whnf))|(refine w13 rfl ?_;conv=>whnf)|fail)
   exact fin _ _ _ rfl rfl
  ·rw [Zjn hse] at hh
   conv=>whnf
   repeat' (first|((refine w5 rfl rfl ?_ ?_) <;> intro _ <;> first|(exfalso;omega)|(conv=>whnf))|((first|refine w8 rfl rfl (by omega) ?_|refine w12 rfl ?_|refine ⟨rfl,?_⟩);conv=>whnf)|fail)
   refine ⟨i,⟨by omega,hh⟩,by omega,[0,1,2,3,4,5],rfl,by decide,⟨r9,r9,r9,trivial⟩,⟨r9,r9,r9,⟨?_,?_⟩,r9,r9,trivial⟩⟩
   ·show (bd _ lv && true)=true;rw [DZ _ hvf];rfl
   ·show _=some (AObj.row 28 [Bc _ lv]);rw [DF _ hvf];rfl
 ·have:j=0:=by omega
  subst this
  rw [hh] at fin
  conv=>whnf
  exact fin _ _ _ rfl rfl
def Qc (c:Cfg) (w k:Int):Int:=(c.members-1-w % c.members+1+k) % c.members
def EL (c:Cfg) (b:Int):Int:=Qc c (b / c.chunk / (c.members-1)) (BY c b)
noncomputable def sptF:Fn (Cfg×Int×Unit):=⟨.g cfgC (.v i64C .nil),fun x=>x.1.may∧0≤x.2.1∧x.2.1<BP x.1,fun x=>.tup [.agg [.int .i64 (BF x.1 x.2.1),.int .i64 (BY x.1 x.2.1),.int .i64 (EL x.1 x.2.1)],.int .i64 0]⟩
def cd90:AC:=match a90 with|.mk c _=>c
theorem Zbg (hE:EM P e) (h41:Con e 41 blsF.O) (h89:Inl e 89 VC [.tmp 4,.tmp 5]) (h90:Inl e 90 cd90 [.tmp 4]) (h99:Inl e 99 VB [.tmp 2]):OvOk P 42 sptF.O:=by
 refine B2 g42.b ?_
 rintro ⟨c,b,_⟩ _ ⟨_,_,rfl,⟨rfl,hc⟩,_,_,rfl,⟨e1,z1⟩,rfl⟩ ⟨hM,hb⟩
 cases e1
 refine ⟨rfl,C.of_G hE g42 ?_⟩
 dsimp only at hM hb hc
 have hbl:∀ (Q:AV→St→Prop) s,Q (.tup [.int .i64 (BP c),.int .i64 0]) s→ESc e 41 [.agg c.c] s Q:=fun Q s k=>Fn.u (F:=blsF) h41 (c,()) ⟨_,_,rfl,⟨rfl,hc⟩,rfl⟩ hM k
 have hmm:=BJ hM
 have hpl:=M7 hM hb
 have fin:∀ st x y z,x=BF c b→y=BY c b→z=EL c b→Frz st (.tup [.agg [.int .i64 x,.int .i64 y,.int .i64 z],.int .i64 0]) (sptF.out (c,b,())):=by
  rintro st x y z rfl rfl rfl;exact .plain _ rfl
 generalize sptF.out _=O at fin ⊢
 unfold EL Qc at fin
 unfold BF BY at fin hpl
 have hM':=hM
 unfold Cfg.may at hM'
 have hd0:=Int.ediv_nonneg hb.1 (show 0≤c.chunk by omega)
 have hd1:b / c.chunk≤b:=Int.ediv_le_self _ hb.1
 have hr0:=Zkz b (show c.chunk≠0 by omega)
 have hr1:=Zk1 b (show 0<c.chunk by omega)
 have he0:=Int.ediv_nonneg hd0 (show 0≤c.members-1 by omega)
 have he1:b / c.chunk / (c.members-1)≤b / c.chunk:=Int.ediv_le_self _ hd0
 have hs0:=Zkz (b / c.chunk) (show c.members-1≠0 by omega)
 have hs1:=Zk1 (b / c.chunk) (show 0<c.members-1 by omega)
 have hw0:=Zkz (b / c.chunk / (c.members-1)) (show c.members≠0 by omega)
 have hw1:=Zk1 (b / c.chunk / (c.members-1)) (show 0<c.members by omega)
 have hpm:=Do (a:=b / c.chunk / (c.members-1)) (b:=c.chunk) (by omega) (by omega)
 generalize BP c=B at *
 have hsum:-9223372036854775808≤b / c.chunk / (c.members-1)*c.chunk+b % c.chunk∧b / c.chunk / (c.members-1)*c.chunk+b % c.chunk≤9223372036854775807:=by
  have h1:b / c.chunk / (c.members-1)*c.chunk≤1000*8:=Int.mul_le_mul (by omega) (by omega) (by omega) (by decide)
  have h2:0≤b / c.chunk / (c.members-1)*c.chunk:=Int.mul_nonneg he0 (by omega)
  omega
 change VW P e 0 _ (Al [.agg c.c,.int .i64 b] 0 .lf) St0 none [] _
 conv=>whnf
 repeat' (first|(refine hbl _ _ ?_;conv=>whnf)|(refine ESc.inl h89 ?_;conv=>whnf)|(refine ESc.inl h90 ?_;conv=>whnf)|(refine ESc.inl h99 ?_;conv=>whnf)|(refine H4 rfl rfl (by omega) ?_;conv=>whnf)|(refine JG rfl rfl (by omega) ?_;conv=>whnf)|(refine Cl rfl rfl hpm ?_;conv=>whnf)|((first|refine w1 rfl rfl ?_ ?_|refine w4 rfl rfl ?_ ?_|refine w6 rfl rfl ?_ ?_) <;> intro _ <;> first|(exfalso;omega)|(conv=>whnf))|((first|refine w7 rfl rfl (by omega) ?_|refine w8 rfl rfl (by omega) ?_|refine ⟨rfl,?_⟩);conv=>whnf)|fail)
 exact fin _ _ _ _ rfl rfl rfl
def spC:Ce (Int×Int×Int):=i64C.pr (i64C.pr i64C)
def Zi7:AC:=match N4 with|.mk c _=>c
def PI (s:(Int×Int×Int)×Unit) (xs:List Hd):Prop:=∀ h ∈ xs,0≤s.1.2.1∧s.1.2.1<h.2.2.1.length
def MQ (s:(Int×Int×Int)×Unit) (h:Hd):Prop:=h.1=s.1.1∧h.2.2.2.1≤1∧h.2.2.1[s.1.2.1.toNat]?=some true
noncomputable def ix109:Fn (List Hd×((Int×Int×Int)×Unit)×Unit):=Cp hdC 109 (.p spC .nil) PI MQ
theorem Zeh (h109:Inl e 109 Zi7 [.tmp 3]):Es e hdC AV.agg 109 (.p spC .nil) PI MQ:=by
 rintro ⟨⟨s,k,m⟩,_⟩ q xs ⟨st,bl,di,ph,de,sq⟩ l ⟨_,_,rfl,⟨_,_,rfl,⟨rfl,-⟩,_,_,rfl,⟨rfl,-⟩,rfl,-⟩,rfl⟩ hok hmem hx Q t f
 have hk:=hok _ hmem
 obtain ⟨bv,dv,rfl,h1,h2,h3,h4,-⟩:=Cf hx
 obtain ⟨ds,hs',hl',hn'⟩:=h3.nth
 dsimp only at hk
 obtain ⟨g,_,l',hg,rfl,hd'⟩:=hn' k.toNat (by omega)
 unfold MQ at t f
 dsimp only at t f
 rw [hg] at t f
 refine ECall.inl h109.O h109.G ?_
 change VE e _ (Al [.agg [.int .i64 st,bv,dv,.int .u8 (ph:Int),.bool de,.int .u32 sq],.fp [.int .i64 s,.int .i64 k,.int .i64 m]] 0 .lf) _ none [] _
 cases g
 all_goals
  conv=>whnf
  repeat' (first|(refine EHead.mk rfl ?_;conv=>whnf)|(refine Cm rfl hs' rfl (show k=(k.toNat:Nat) by omega) (by omega) hd' ?_;conv=>whnf)|((first|refine w2 rfl rfl ?_ ?_|refine w5 rfl rfl ?_ ?_) <;> intro _ <;> first|(exfalso;omega)|(conv=>whnf))|fail)
  all_goals first
   | exact t ⟨by omega,by omega,rfl⟩ _
   | exact f (fun q=>by have:=q.1;omega) _
   | exact f (fun q=>by have:=q.2.1;omega) _
   | exact f (fun q=>nomatch q.2.2) _
theorem Tw {hs:List Hd}{b:Int}(hsh:BX c hs):DI c hs b↔∃ h ∈ hs,h.1=BF c b∧h.2.2.2.1≤1∧h.2.2.1[(BY c b).toNat]?=some true:=by
 unfold DI
 constructor
 ·rintro ⟨h0,h1⟩
  rw [← Pr] at h0 h1
  have hlt:=Zcf (fun h:Hd=>h.1=BF c b) hs
  obtain ⟨x,hx⟩:∃ x,hs[(Ci (fun h:Hd=>h.1=BF c b) hs).toNat]?=some x:=⟨_,Zjf (by omega)⟩
  refine ⟨x,Zj1 hx,?_,h1 x hx⟩
  classical
  unfold Ci at hx h0
  split at hx
  ·rename_i i hi
   have:=List.findIdx?_eq_some_iff_getElem.1 hi
   obtain ⟨h2,h3,-⟩:=this
   rw [Int.toNat_natCast,Zjf h2] at hx
   cases hx
   simpa using h3
  ·rename_i hi
   rw [hi] at h0
   exact absurd h0 (by decide)
 ·rintro ⟨x,hx,h1,h2⟩
  obtain ⟨i,hi⟩:=Zk6 hx
  have hil:=(Zjg.1 hi).1
  have hp:A6 hs (BF c b)=i:=Ok hi h1 fun j hj g hg e=>(hsh.1 i hil x hi).2 j hj g hg (by rw [e,h1])
  rw [hp]
  refine ⟨by omega,fun h hh=>?_⟩
  rw [Int.toNat_natCast,hi] at hh
  cases hh
  exact h2
noncomputable def mhlF:Fn (Dv×Unit):=bF (.g dvC .nil) (fun x=>x.1.1.may∧BX x.1.1 x.1.2.2.2.1∧Eu x.1.1 x.1.2.2.2.2.2.1) fun x=>Ji x.1.1 x.1.2.2.2.1 x.1.2.2.2.2.2.1
set_option maxHeartbeats 2000000 in
theorem Zb7 (hE:EM P e) (h42:Con e 42 sptF.O) (h55:Inl e 55 Qh [.tmp 4]) (h110:Con e 110 (relS (BB ix109.R))):OvOk P 53 mhlF.O:=by
 refine Bl hE g53 ?_
 rintro ⟨⟨c,bk,⟨ev,lo,sp,po,dn,nl,br⟩,hs,⟨ag,sq,tl,us,L⟩,fs,nx,so⟩,_⟩ _ ⟨_,_,rfl,hd,rfl⟩ ⟨hM,hSh,hFs⟩ K t f
 obtain ⟨hv,lv,fv,rfl,ho,hH,hL,hF⟩:=BE hd
 have hrow:=dvC.hf hd
 obtain ⟨ks,hs2,hl2,hn2⟩:=hF.nth
 have hfv:=hF.hf
 dsimp only at t f hM hSh hFs
 have hsp:∀ b,0≤b∧b<BP c→∀ (Q:AV→St→Prop) s',Q (.tup [.agg [.int .i64 (BF c b),.int .i64 (BY c b),.int .i64 (EL c b)],.int .i64 0]) s'→ESc e 42 [.agg c.c,.int .i64 b] s' Q:=fun b hb Q s' k=>Fn.u (F:=sptF) h42 (c,b,()) ⟨_,_,rfl,⟨rfl,ho.1⟩,_,_,rfl,⟨rfl,Bg (show Ad b by have:=BJ hM;unfold Ad;omega)⟩,rfl⟩ ⟨hM,hb.1,hb.2⟩ k
 have hsn:∀ b,0≤b∧b<BP c→Ad (EL c b):=fun b hb=>by
  unfold Cfg.may at hM
  unfold EL Qc
  have h1:=Zkz (c.members-1-b / c.chunk / (c.members-1) % c.members+1+BY c b) (show c.members≠0 by omega)
  have h2:=Zk1 (c.members-1-b / c.chunk / (c.members-1) % c.members+1+BY c b) (show 0<c.members by omega)
  unfold Ad;omega
 have hcn:∀ b,0≤b∧b<BP c→∀ r (Q:AV→St→Prop) s',s'.get r=some (.row 105 [.int .i64 (BF c b),.int .i64 (BY c b),.int .i64 (EL c b)])→(DI c hs b→Q (.bool true) s')→(¬DI c hs b→Q (.bool false) s')→ESc e 55 [hv,.fn 109 [] [.ptr r 0]] s' Q:=fun b hb r Q s' hr y n=>by
  have hpl:=M7 hM hb
  have hmm:=BJ hM
  have hM':=hM
  unfold Cfg.may at hM'
  have w1:=Bg (show Ad (BF c b) by unfold Ad;omega)
  have w2:=Bg (show Ad (BY c b) by unfold Ad;omega)
  have hok:PI ((BF c b,BY c b,EL c b),()) hs:=fun h hh=>by
   obtain ⟨i,hi⟩:=Zk6 hh
   have:=(hSh.1 i (Zjg.1 hi).1 h hi).1
   obtain ⟨st,bl,di,ph,de,sq⟩:=h
   unfold Di at this
   have:=this.2.2.1
   dsimp only
   omega
  refine UO h55 (p:=MQ ((BF c b,BY c b,EL c b),())) (xs:=hs) (fun Q k=>@GT _ ix109 e 110 s' Q h110 hv 109 [.ptr r 0] [.fp [.int .i64 (BF c b),.int .i64 (BY c b),.int .i64 (EL c b)]] (hs,((BF c b,BY c b,EL c b),()),()) ⟨_,_,rfl,⟨_,rfl,hH⟩,_,_,rfl,⟨_,_,rfl,⟨[_],_,rfl,⟨rfl,w1⟩,[_],_,rfl,⟨rfl,w2⟩,rfl,Bg (hsn b hb)⟩,rfl⟩,rfl⟩ hok (.cons ⟨r,105,_,rfl,rfl,hr,rfl⟩ .nil) rfl k) (fun q=>y ((Tw hSh).2 q)) fun q=>n fun h=>q ((Tw hSh).1 h)
 conv=>whnf
 repeat' (first|(refine Ac rfl hs2 ?_;conv=>whnf)|fail)
 refine A0 hE fs.length (fun i=>[(1,.ptr 0 0),(11,fv),(12,.int .i64 (fs.length:Int)),(13,.int .i64 (i:Int))]) (fun _=>[.row 33 (c.c++[.bool bk,.int .u32 ev,.int .i64 lo,.bool sp,.int .i64 po,.int .i64 dn,.bool nl,.bool br,hv,.int .u32 ag,.int .u32 sq,.int .i64 tl,.int .i64 us,lv,fv,.int .i64 nx,.bool so])]) (fun i=>∀ j<i,∀ f,fs[j]?=some f→Ps c hs f) (fun k h=>by omega) (Abs.tells (rs:=[0]) ⟨by decide,⟨r9,t9,r9,r9,trivial⟩,⟨⟨Ab hrow,by rw [Aa hrow];rfl⟩,trivial⟩⟩) ?_
 intro i hi hI
 by_cases hlt:i<fs.length
 ·obtain ⟨⟨n,⟨k,a,m,d⟩,st,sqs,da⟩,_,r,hx,hxr,hd'⟩:=hn2 i hlt
  have hfr:=ftC.hf hxr
  obtain ⟨ev',tv,qv,av,rfl,p1,p2,p3,p4,g1,g2,g3,g4⟩:=CW hxr
  obtain ⟨ts,hs3,hl3,hn3⟩:=g2.nth
  have htv:=g2.hf
  have hef:=(hFs.2 i hlt _ hx).1
  conv=>whnf
  repeat' (first|(refine Ai rfl hs2 rfl hlt hd' ?_;conv=>whnf)|(refine Ay (cs:=[.int .i64 n,.int .u8 (k:Int),.int .i64 a,.int .i64 m,ev',tv,qv,av]) rfl ?_;conv=>whnf)|(refine Ac rfl hs3 ?_;conv=>whnf)|((refine w1 rfl rfl ?_ ?_) <;> intro _ <;> first|(exfalso;omega)|(conv=>whnf))|fail)
  refine A0 hE st.length (fun k'=>[(1,.ptr 0 0),(4,.ptr 1 0),(11,fv),(12,.int .i64 (fs.length:Int)),(13,.int .i64 (i:Int)),(18,tv),(19,.int .i64 (st.length:Int)),(20,.int .i64 (k':Int))]) (fun _=>[.row 33 (c.c++[.bool bk,.int .u32 ev,.int .i64 lo,.bool sp,.int .i64 po,.int .i64 dn,.bool nl,.bool br,hv,.int .u32 ag,.int .u32 sq,.int .i64 tl,.int .i64 us,lv,fv,.int .i64 nx,.bool so]),.row 143 [.int .i64 n,.int .u8 (k:Int),.int .i64 a,.int .i64 m,ev',tv,qv,av]]) (fun k'=>∀ j<k',st[j]?=some 1→DI c hs (a+(j:Int))) (fun k h=>by omega) (Abs.tells (rs:=[0,1]) ⟨by decide,⟨r9,r9,t9,r9,r9,t9,r9,r9,trivial⟩,⟨⟨Ab hrow,by rw [Aa hrow];rfl⟩,⟨Ab hfr,by rw [Aa hfr];rfl⟩,trivial⟩⟩) ?_
  intro k' hk' hK
  by_cases hkt:k'<st.length
  ·obtain ⟨s1,_,r3,hx3,⟨rfl,hb3⟩,hd3⟩:=hn3 k' hkt
   have hb:=T5 hef hkt
   have hbm:=(BJ hM).2
   have hsp:=hsp _ hb
   have hcn:=hcn _ hb
   have hN:s1=1→¬DI c hs (a+k')→∀ s,K (.bool false) s:=fun e h=>f fun q=>h (q i hlt _ hx k' hkt (by subst e;exact hx3))
   have hY:(s1=1→DI c hs (a+k'))→∀ j<k'+1,st[j]?=some 1→DI c hs (a+(j:Int)):=fun h=>AK hK fun e=>by rw [hx3] at e;cases e;exact h rfl
   clear t f hI hK hn2 hn3
   generalize BF c (a+k')=z1 at *
   generalize BY c (a+k')=z2 at *
   generalize EL c (a+k')=z3 at *
   conv=>whnf
   repeat' (first|(refine Ai rfl hs3 rfl hkt hd3 ?_;conv=>whnf)|(refine EHead.mk rfl ?_;conv=>whnf)|(refine hsp _ _ ?_;conv=>whnf)|(refine hcn _ _ _ rfl (fun q=>?_) (fun q=>?_) <;> conv=>whnf)|((first|refine w1 rfl rfl ?_ ?_|refine w5 rfl rfl ?_ ?_) <;> intro _ <;> first|(exfalso;omega)|(conv=>whnf))|((first|refine w7 rfl rfl (by omega) ?_|refine w12 rfl ?_|refine w13 rfl ?_|refine ⟨rfl,?_⟩);conv=>whnf)|fail)
   all_goals first
    | exact hN (by omega) q _
    | exact ⟨hkt,hY (fun _=>q),Abs.tells (rs:=[0,1]) ⟨by decide,⟨r9,r9,t9,r9,r9,t9,r9,r9,trivial⟩,⟨⟨Ab hrow,by rw [Aa hrow];rfl⟩,⟨Ab hfr,by rw [Aa hfr];rfl⟩,trivial⟩⟩⟩
    | exact ⟨hkt,hY (fun e=>by omega),Abs.tells (rs:=[0,1]) ⟨by decide,⟨r9,r9,t9,r9,r9,t9,r9,r9,trivial⟩,⟨⟨Ab hrow,by rw [Aa hrow];rfl⟩,⟨Ab hfr,by rw [Aa hfr];rfl⟩,trivial⟩⟩⟩
  ·conv=>whnf
   repeat' (first|((refine w1 rfl rfl ?_ ?_) <;> intro _ <;> first|(exfalso;omega)|(conv=>whnf))|((first|refine w7 rfl rfl (by omega) ?_|refine ⟨rfl,?_⟩);conv=>whnf)|fail)
   exact ⟨hlt,AK hI fun f e=>by rw [hx] at e;cases e;exact fun j hj=>hK j (by have:j<st.length:=hj;omega),Abs.tells (rs:=[0]) ⟨by decide,⟨r9,t9,r9,r9,trivial⟩,⟨⟨Ab hrow,by rw [Aa hrow];rfl⟩,trivial⟩⟩⟩
 ·conv=>whnf
  repeat' (first|((refine w1 rfl rfl ?_ ?_) <;> intro _ <;> first|(exfalso;omega)|(conv=>whnf))|fail)
  exact t (fun j hj=>hI j (by omega)) _
end Go.AM
