/- Contracts of functions over the abstract machine. No conditions. -/
import Derived.Test.YtblggmblcjoalaaGreatStG
import Derived.Test.YtblggmblcjoalaaGreatStD
import Derived.Test.YtblggmblcjoalaaGreatStE
import Derived.Test.YtblggmblcjoalaaGreatStF
import Derived.Test.YtblggmblcjoalaaGreatStC
import Derived.Test.YtblggmblcjoalaaGreatStA
import Derived.Test.YtblggmblcjoalaaGreatAM5
set_option linter.unusedVariables false
set_option linter.unusedSimpArgs false
set_option maxRecDepth 100000
namespace Go.AM
attribute [local irreducible] W
open X
theorem rol_ldT {g h:Nat->List AV}{T:List AV}{s:St}{r:Nat}(hr:s.get r=some (.row 116 (rolC g h T))) (hg:∀ i,(g i).length=10) (hh:∀ i,(h i).length=1):load r 176 T.length s=some T:=by
 have hl:=rol_len hg hh T
 rw [load_of hr (by omega)]
 have e:rolC g h T=(arL g 16++arL h 16)++T:=by unfold rolC;simp
 have e1:(arL g 16++arL h 16).length=176:=by rw [List.length_append,arL_len hg,arL_len hh]
 rw [e,← e1,List.drop_left,List.take_of_length_le (Nat.le_refl _)]
def lstA (lo:Int) (i:Nat):Int:=if 0≤lo∧lo<(i:Int) then lo else -1
def losR (args:List AV) (u:AV):Prop:=∃ c ev op lo,c.may∧(0≤ev∧ev≤2147483648)∧(-1≤lo∧lo<c.members)∧args=[.agg (rolA c ev op lo)]∧u=.tup [.agg [.int .u32 ev,.int .i64 lo,.bool false,.int .i64 0,.int .i64 0,.bool false,.bool false],.int .i64 0]
variable {c c':Cfg}{ev' lo:Int}{op:Bool}
theorem rolA_inj {ev:Int}{op':Bool}{lo':Int}(h:rolA c ev op lo=rolA c' ev' op' lo') (hM:c.may) (hM':c'.may) (hb:-1≤lo∧lo<c.members) (hb':-1≤lo'∧lo'<c'.members):ev=ev'∧lo=lo':=by
 unfold rolA rolC at h
 obtain ⟨-,h2⟩:=List.append_inj h (by rw [arL_len (gL_len c ev op lo _),arL_len (gL_len c' ev' op' lo' _)])
 obtain ⟨h3,h4⟩:=List.append_inj h2 (by rw [arL_len (gR_len lo _),arL_len (gR_len lo' _)])
 unfold gA lbC at h4
 simp only [List.cons.injEq,AV.int.injEq,AV.bool.injEq,true_and,and_true] at h4
 obtain ⟨-,q2,q3,-⟩:=h4
 unfold Cfg.may at hM hM'
 have key:∀ j:Nat,(j:Int)<c.members->(lo=(j:Int)↔lo'=(j:Int)):=fun j hj=>by
  have a:=ar_get (A:=[]) (T:=[]) (gR_len lo c.members.toNat) (show j<16 by omega)
  have b:=ar_get (A:=[]) (T:=[]) (gR_len lo' c'.members.toNat) (show j<16 by omega)
  rw [h3,b] at a
  unfold gR at a
  simp only [List.cons.injEq,AV.bool.injEq,and_true] at a
  have:=decide_eq_decide.1 a
  constructor
  ·intro h
   by_cases q:lo'=(j:Int)
   ·exact q
   ·exact absurd h (this.1 ⟨by omega,q⟩).2
  ·intro h
   by_cases q:lo=(j:Int)
   ·exact q
   ·exact absurd h (this.2 ⟨by omega,q⟩).2
 refine ⟨q2,?_⟩
 by_cases q:0≤lo
 ·have:=(key lo.toNat (by omega)).1 (by omega)
  omega
 ·by_cases q':0≤lo'
  ·have:=(key lo'.toNat (by omega)).2 (by omega)
   omega
  ·omega
variable {e:Env}
theorem los_use (h49:Con e 49 (relO losR)) {ev:Int}(hM:c.may) (he:0≤ev∧ev≤2147483648) (hb:-1≤lo∧lo<c.members) (Q:AV->St->Prop) (s:St) (q:Q (.tup [.agg [.int .u32 ev,.int .i64 lo,.bool false,.int .i64 0,.int .i64 0,.bool false,.bool false],.int .i64 0]) s):ESc e 49 [.agg (rolA c ev op lo)] s Q:=by
 refine ESc.rel h49 ⟨_,c,ev,op,lo,hM,he,hb,rfl,rfl⟩ ?_
 rintro u ⟨c',ev',op',lo',hM',he',hb',e1,rfl⟩
 have e1:=(List.cons.inj e1).1
 injection e1 with e1
 obtain ⟨rfl,rfl⟩:=rolA_inj e1 hM hM' hb hb'
 exact q
theorem los_ok (hE:EM P e):OvOk P 49 (relO losR):=by
 refine relO_of g49.b ?_
 rintro args u ⟨c,ev,op,lo,hM,he,hb,rfl,rfl⟩
 have hM':=hM
 unfold Cfg.may at hM'
 have hm0:∃ M:Nat,c.members=M∧c.members.toNat=M∧M≤16∧3≤M:=⟨c.members.toNat,by omega,rfl,by omega,by omega⟩
 obtain ⟨M,m1,m2,m3,m4⟩:=hm0
 have hrf:=rolA_hf c ev op lo
 refine ⟨by show (hfs (rolA c ev op lo) && true)=true;rw [hrf];rfl,rfl,C.of_G hE g49 ?_⟩
 have hfin:∀ st,Frz st (.tup [.agg [.int .u32 ev,.int .i64 lo,.bool false,.int .i64 0,.int .i64 0,.bool false,.bool false],.int .i64 0]) (.tup [.agg [.int .u32 ev,.int .i64 lo,.bool false,.int .i64 0,.int .i64 0,.bool false,.bool false],.int .i64 0]):=fun st=>.plain _ rfl
 generalize hO:AV.tup [.agg [.int .u32 ev,.int .i64 lo,.bool false,.int .i64 0,.int .i64 0,.bool false,.bool false],.int .i64 0]=O at hfin ⊢
 subst hO
 have gl:=gL_len c ev op lo M
 have gr:=gR_len lo M
 have hldT:=fun {s r} hr=>@rol_ldT (gL c ev op lo M) (gR lo M) (gA c ev op lo 0) s r hr gl gr
 have hgtR:=fun {i:Nat}(hi:i<16) {b:AV} hb=>@rol_gtR (gL c ev op lo M) (gR lo M) gl gr i hi b hb (gA c ev op lo 0)
 have eR:rolA c ev op lo=rolC (gL c ev op lo M) (gR lo M) (gA c ev op lo 0):=by unfold rolA;rw [m2]
 have h186:(rolC (gL c ev op lo M) (gR lo M) (gA c ev op lo 0)).length=186:=rol_len gl gr _
 rw [eR] at hrf ⊢
 generalize hRR:rolC (gL c ev op lo M) (gR lo M) (gA c ev op lo 0)=R at *
 change VW P e 0 _ (initT [.agg R] 0 .lf) St0 none [] _
 conv=>whnf
 skip
 refine stuckB (by show Nat.beq (lenL R) 186=true;rw [lenL_eq,h186];rfl) ?_;conv=>whnf
 skip
 refine stuckO (lbC c ev (skp lo 0:Nat) (-1) 0 op) (by show load 0 176 10 _=_;exact hldT rfl) ?_
 unfold lbC
 conv=>whnf
 skip
 refine W.up hE M (fun i=>[(1,.ptr 0 0),(2,.ptr 1 0),(4,.ptr 2 0),(5,.ptr 3 0),(15,.int .i64 c.members),(16,.int .i64 (i:Int))]) (fun i=>[.row 116 R,.row 34 [.int .u32 0,.int .i64 0,.bool false,.int .i64 0,.int .i64 0,.bool false,.bool false],.row 108 [.int .u32 c.id,.int .u32 ev,.int .i64 c.members,.int .i64 c.chunk,.int .i64 c.rows,.int .i64 c.log,.int .i64 (skp lo 0:Nat),.int .i64 (-1),.int .i64 0,.bool op],.row 34 [.int .u32 ev,.int .i64 (lstA lo i),.bool false,.int .i64 0,.int .i64 0,.bool false,.bool false]]) (fun _=>True) trivial ?_ ?_
 ·have h0:lstA lo (0:Nat)=-1:=by unfold lstA;rw [if_neg (by omega)]
  rw [h0]
  exact Abs.tells (rs:=[0,1,2,3]) ⟨by decide,⟨r9,r9,r9,r9,r9,r9,trivial⟩,⟨o9 hrf,r9,r9,r9,trivial⟩⟩
 intro i hi _
 by_cases hlt:i<M
 ·have hb:=fun {b:AV} hb=>hgtR (i:=i) (b:=b) (by omega) hb
  by_cases hlo:lo=(i:Int)
  ·have h0:lstA lo i=-1:=by unfold lstA;rw [if_neg (by omega)]
   have h1:lstA lo (i+1)=(i:Int):=by unfold lstA;rw [if_pos (by omega)];exact hlo
   have eR:gR lo M i=[.bool false]:=by unfold gR;rw [decide_eq_false (by rintro ⟨_,b⟩;exact b hlo)]
   rw [h0,h1]
   conv=>whnf
   repeat' (first|(refine EPrim.ixaP (i:=i) rfl rfl (by omega) ?_;conv=>whnf)|refine nq1 ?_ ?_|(intro _;first|omega|conv=>whnf))
   refine stuckO (.bool false) (by show getL R (160+i*1)=_;exact hb eR) ?_;conv=>whnf
   repeat' (first|((first|refine nq7 ?_|refine ⟨rfl,?_⟩);conv=>whnf)|refine nq6 ?_ ?_|(intro _;first|omega|conv=>whnf))
   exact ⟨hlt,trivial,Abs.tells (rs:=[0,1,2,3]) ⟨by decide,⟨r9,r9,r9,r9,r9,r9,trivial⟩,⟨o9 hrf,r9,r9,r9,trivial⟩⟩⟩
  ·have h1:lstA lo (i+1)=lstA lo i:=by
    unfold lstA
    by_cases q:0≤lo∧lo<(i:Int)
    ·rw [if_pos q,if_pos (by omega)]
    ·rw [if_neg q,if_neg (by omega)]
   have eR:gR lo M i=[.bool true]:=by unfold gR;rw [decide_eq_true ⟨hlt,hlo⟩]
   rw [h1]
   conv=>whnf
   repeat' (first|(refine EPrim.ixaP (i:=i) rfl rfl (by omega) ?_;conv=>whnf)|refine nq1 ?_ ?_|(intro _;first|omega|conv=>whnf))
   refine stuckO (.bool true) (by show getL R (160+i*1)=_;exact hb eR) ?_;conv=>whnf
   repeat' (first|((first|refine nq7 ?_|refine ⟨rfl,?_⟩);conv=>whnf)|fail)
   exact ⟨hlt,trivial,Abs.tells (rs:=[0,1,2,3]) ⟨by decide,⟨r9,r9,r9,r9,r9,r9,trivial⟩,⟨o9 hrf,r9,r9,r9,trivial⟩⟩⟩
 ·have hiM:i=M:=by omega
  subst hiM
  have h1:lstA lo i=lo:=by
   unfold lstA
   by_cases q:0≤lo
   ·rw [if_pos (by omega)]
   ·rw [if_neg (by omega)];omega
  rw [h1]
  conv=>whnf
  repeat' (first|refine nq1 ?_ ?_|refine nq6 ?_ ?_|(intro _;first|omega|conv=>whnf))
  exact hfin _
def whoR (args:List AV) (u:AV):Prop:=∃ c D v ev op S lo,args=[v,.int .i64 c.heads]∧Ls dkC D v∧(∀ d ∈ D,smD d)∧c.ok∧ArP c D ev op S lo∧(0≤ev∧ev≤2147483648)∧u=.tup [.agg c.c,.agg [.int .u32 ev,.int .i64 lo,.bool false,.int .i64 0,.int .i64 0,.bool false,.bool false],.bool op,.int .i64 0]
variable {D:List Dk}{v:AV}{S:List Nat}
theorem who_use (h12:Con e 12 (relO whoR)) {ev:Int}(hD:Ls dkC D v) (hsm:∀ d ∈ D,smD d) (hc:c.ok) (hA:ArP c D ev op S lo) (he:0≤ev∧ev≤2147483648) (Q:AV->St->Prop) (s:St) (q:Q (.tup [.agg c.c,.agg [.int .u32 ev,.int .i64 lo,.bool false,.int .i64 0,.int .i64 0,.bool false,.bool false],.bool op,.int .i64 0]) s):ESc e 12 [v,.int .i64 c.heads] s Q:=by
 refine ESc.rel h12 ⟨_,c,D,v,ev,op,S,lo,rfl,hD,hsm,hc,hA,he,rfl⟩ ?_
 rintro u ⟨c',D',v',ev',op',S',lo',e1,hD',hsm',hc',hA',he',rfl⟩
 simp only [List.cons.injEq,AV.int.injEq,true_and,and_true] at e1
 obtain ⟨rfl,e1⟩:=e1
 have:=hD'.inj hD
 subst this
 obtain ⟨⟨a1,a2,a3,a4,a5⟩,rfl,rfl,-,rfl⟩:=ar_det hA' hA hc' hc he' he
 have:c'.c=c.c:=by unfold Cfg.c;rw [a1,a2,a3,a4,a5,e1]
 rw [this];exact q
theorem who_ok (hE:EM P e) (h34:Con e 34 achF.O) (h35:Con e 35 ftcF.O) (h48:Con e 48 (relO rolR)) (h49:Con e 49 (relO losR)):OvOk P 12 (relO whoR):=by
 refine relO_of g12.b ?_
 rintro args u ⟨c,D,v,ev,op,S,lo,rfl,hD,hsm,hc,hA,he,rfl⟩
 have hvf:=hD.hf
 have hM:=hA.m
 have h20:=hA.f
 have hM':=hM
 unfold Cfg.may at hM'
 have hl0:(D.length:Int)=c.members+1:=h20.1
 have hm0:∃ M:Nat,c.members=M∧c.members.toNat=M∧M≤16∧3≤M:=⟨c.members.toNat,by omega,rfl,by omega,by omega⟩
 obtain ⟨M,m1,m2,m3,m4⟩:=hm0
 have hch0:chN [] D=0:=by
  unfold chN
  rw [if_pos ⟨⟨by omega,by omega⟩,fun d hd=>by obtain ⟨i,hi⟩:=List.getElem?_of_mem hd;exact (h20.2 i (List.getElem?_eq_some_iff.1 hi).1 d hi).2⟩]
  simp
 have hch:∀ (Q:AV->St->Prop) s,Q (.int .i64 0) s->ESc e 34 [.nils,v] s Q:=fun Q s k=>Fn.u (F:=achF) h34 ([],D,()) ⟨_,_,rfl,⟨_,rfl,Ls.no (.inl rfl)⟩,_,_,rfl,⟨_,rfl,hD⟩,rfl⟩ hsm (by show Q (.int .i64 (chN [] D)) s;rw [hch0];exact k)
 have hck:=fun (Q:AV->St->Prop) st a=>@cF.u _ _ _ _ e 35 st Q _ h35 (c,D,()) ⟨_,_,rfl,⟨rfl,hc⟩,_,_,rfl,⟨_,rfl,hD⟩,rfl⟩ hsm (fun _=>a) (fun q=>absurd (And.intro hM h20) q)
 have hro:=fun Q s q=>rol_use h48 hD hsm hc hA he Q s q
 have hlo:=fun Q s q=>los_use (op:=op) h49 hM he hA.b Q s q
 have gl:=gL_len c ev op lo M
 have gr:=gR_len lo M
 have hldT:=fun {s r} hr=>@rol_ldT (gL c ev op lo M) (gR lo M) (gA c ev op lo 0) s r hr gl gr
 have eR:rolA c ev op lo=rolC (gL c ev op lo M) (gR lo M) (gA c ev op lo 0):=by unfold rolA;rw [m2]
 have h186:(rolC (gL c ev op lo M) (gR lo M) (gA c ev op lo 0)).length=186:=rol_len gl gr _
 rw [eR] at hro hlo
 obtain ⟨cs,hs',hl',-⟩:=hD.nth
 refine ⟨by show (AM.hf v && _)=true;rw [hvf];rfl,rfl,C.of_G hE g12 ?_⟩
 have hfin:∀ st,Frz st (.tup [.agg [.int .u32 c.id,.int .i64 c.members,.int .i64 c.chunk,.int .i64 c.rows,.int .i64 c.log,.int .i64 c.heads],.agg [.int .u32 ev,.int .i64 lo,.bool false,.int .i64 0,.int .i64 0,.bool false,.bool false],.bool op,.int .i64 0]) (.tup [.agg c.c,.agg [.int .u32 ev,.int .i64 lo,.bool false,.int .i64 0,.int .i64 0,.bool false,.bool false],.bool op,.int .i64 0]):=fun st=>.plain _ rfl
 generalize AV.tup [.agg c.c,.agg [.int .u32 ev,.int .i64 lo,.bool false,.int .i64 0,.int .i64 0,.bool false,.bool false],.bool op,.int .i64 0]=O at hfin ⊢
 generalize rolC (gL c ev op lo M) (gR lo M) (gA c ev op lo 0)=R at *
 unfold Cfg.c at hck
 change VW P e 0 _ (initT [v,.int .i64 c.heads] 0 .lf) St0 none [] _
 conv=>whnf
 repeat' (first|((first|refine EPrim.lenZ rfl hs' ?_|refine hch _ _ ?_|refine hro _ _ ?_);conv=>whnf)|refine nq2 ?_ ?_|refine nq6 ?_ ?_|(intro _;first|omega|conv=>whnf))
 refine stuckB (by show Nat.beq (lenL R) 186=true;rw [lenL_eq,h186];rfl) ?_;conv=>whnf
 refine stuckO _ (by show storeAt 2 0 R _=_;exact store_full (e:=116) (old:=rolC (fun _=>lb0) (fun _=>[.bool false]) lb0) rfl (by rw [h186];rfl)) ?_;conv=>whnf
 repeat' (first|(refine nq12 ?_;conv=>whnf)|fail)
 refine stuckO (lbC c ev (skp lo 0:Nat) (-1) 0 op) (by show load 2 176 10 _=_;exact hldT rfl) ?_
 unfold lbC
 conv=>whnf
 repeat' (first|(refine hck _ _ ?_;conv=>whnf)|refine nq6 ?_ ?_|(intro _;first|omega|conv=>whnf))
 refine stuckO R (by show load 2 0 186 _=_;exact load_full rfl h186) ?_;conv=>whnf
 repeat' (first|((first|refine hlo _ _ ?_|refine ⟨rfl,?_⟩);conv=>whnf)|refine nq6 ?_ ?_|(intro _;first|omega|conv=>whnf))
 exact hfin _
def supX (c:Cfg) (ev:Int):List Nat:=supBlk c.id.toNat ev.toNat 1 0
theorem supX_ok (c:Cfg) (ev:Int):(supX c ev).length=128∧∀ x ∈ supX c ev,x<256:=⟨supBlk_length ..,supBlk_lt _ _ _ _⟩
theorem supX_may {ev:Int}(h:1≤ev∧ev≤2147483648):supB (ev.toNat:Nat) (1:Nat) (0:Nat)=true:=by
 unfold supB numB
 rw [decide_eq_true (by omega),decide_eq_true (by omega),decide_eq_true (by omega)];rfl
def nwDv (c:Cfg) (bk:Bool) (ev lo:Int):Dv:=(c,bk,(ev,lo,false,0,0,false,false),[],(ev,1,0,0,[]),[],1,false)
theorem nw_lo {ev:Int}(he:ev≤2147483648) (hl:-1≤lo∧lo<c.members):loB c (ev,lo,false,0,0,false,false):=⟨he,hl.1,hl.2,fun h=>(by cases h),fun _=>⟨rfl,rfl⟩⟩
theorem nw_lg (hM:c.may) {ev:Int}(he:1≤ev∧ev≤2147483648):lgG c (ev,1,0,0,[]):=by
 have hl:=Cfg.may_log hM
 refine lg_good hM ⟨⟨by omega,by omega,by omega,by omega,by omega,by omega,by simp;omega⟩,fun i y h=>by simp at h,rfl,?_⟩
 show (c.members+1)*0≤c.log-0
 omega
theorem nw_mck (hM:c.may) (bk:Bool) {ev:Int}(he:1≤ev∧ev≤2147483648) (hl:-1≤lo∧lo<c.members):mckP (nwDv c bk ev lo):=by
 have hM':=hM
 unfold Cfg.may at hM'
 refine ⟨⟨hM,nw_lo he.2 hl,⟨fun k hk=>absurd hk (Nat.not_lt_zero _),by show (0:Int)≤_;omega⟩,nw_lg hM he,⟨by show 0≤8;omega,fun i hi=>absurd hi (Nat.not_lt_zero _)⟩,by omega,by rintro ⟨f,hf,-⟩;cases hf⟩,fun i hi=>absurd hi (Nat.not_lt_zero _),?_,fun h=>(by cases h),fun _=>⟨fun i hi=>absurd hi (Nat.not_lt_zero _),fun i hi=>absurd hi (Nat.not_lt_zero _)⟩⟩
 rintro ⟨i,k,x,y,-,hx,-⟩
 simp at hx
structure JrP (c:Cfg) (x:Dk) (S:List Nat):Prop where
 n:(x.1.length:Int)=c.log+1
 k:dkP x
 s:smD x
 d:x.2.2=false
 b:seenC x 0=S
 z:∀ p:Int,1≤p->seenC x p=zeB
theorem ar_jr {ev:Int}(hA:ArP c D ev op S lo) (hsm:∀ d ∈ D,smD d):∃ x,D[c.members.toNat]?=some x∧JrP c x S:=by
 have hM:=hA.m
 unfold Cfg.may at hM
 have hl0:(D.length:Int)=c.members+1:=hA.f.1
 have hb:=hA.b
 have hlt:c.members.toNat<D.length:=by omega
 obtain ⟨x,hx⟩:∃ x,D[c.members.toNat]?=some x:=⟨_,List.getElem?_eq_getElem hlt⟩
 obtain ⟨h1,h2⟩:=hA.f.2 _ hlt x hx
 rw [if_pos (by omega)] at h1
 have hs:∀ p,seI D p c.members.toNat=seenC x p:=fun p=>by unfold seI;rw [hx];rfl
 refine ⟨x,hx,h1,h2,hsm x (List.mem_of_getElem? hx),?_,?_,fun p hp=>?_⟩
 ·cases hd:x.2.2 with
  | false=>rfl
  | true=>
   have:=(hA.d c.members.toNat).1 (by unfold deadC;rw [hx];exact hd)
   omega
 ·rw [← hs];exact hA.j
 ·rw [← hs];exact hA.z p hp _ (by omega) (by omega)
def cd237:AC:=match a237 with|.mk c _=>c
def cd288:AC:=match a288 with|.mk c _=>c
def on0R (args:List AV) (u:AV):Prop:=∃ n:Int,args=[.int .i64 n,.int .i64 0,.int .i64 0]∧1≤n∧n≤255∧u=.tup [.int .i64 0,.int .i64 0]
theorem on0_use (h159:Con e 159 (relO on0R)) {n:Int}(h:1≤n∧n≤255) (Q:AV->St->Prop) (s:St) (q:Q (.tup [.int .i64 0,.int .i64 0]) s):ESc e 159 [.int .i64 n,.int .i64 0,.int .i64 0] s Q:=by
 refine ESc.rel h159 ⟨_,n,rfl,h.1,h.2,rfl⟩ ?_
 rintro u ⟨_,-,-,-,rfl⟩
 exact q
theorem on0_ok (hE:EM P e) (h237:Inl e 237 cd237 [.tmp 8,.tmp 9]) (h288:Inl e 288 cd288 [.tmp 4]):OvOk P 159 (relO on0R):=by
 refine relO_of g159.b ?_
 rintro args u ⟨n,rfl,h0,h1,rfl⟩
 refine ⟨rfl,rfl,C.of_G hE g159 ?_⟩
 have hfin:∀ st,Frz st (.tup [.int .i64 0,.int .i64 0]) (.tup [.int .i64 0,.int .i64 0]):=fun st=>.plain _ rfl
 have hmod:((0:Int)+0) % n=0:=by rw [Int.add_zero];exact Int.zero_emod n
 conv=>whnf
 repeat' (first|((first|refine ESc.inl h237 ?_|refine ESc.inl h288 ?_|refine EPrim.remN rfl rfl (by omega) ?_|refine nq8 ?_);conv=>whnf)|refine nq5 ?_ ?_|(intro _;first|omega|conv=>whnf))
 refine EPrim.mk (v:=.int .i64 0) (s':=St0) (fun e rec=>rfl) ?_;conv=>whnf
 repeat' (first|((first|refine ESc.inl h237 ?_|refine ESc.inl h288 ?_|refine EPrim.remN rfl rfl (by omega) ?_|refine nq7 ?_|refine nq12 ?_);conv=>whnf)|refine nq1 ?_ ?_|refine nq2 ?_ ?_|refine nq4 ?_ ?_|refine nq5 ?_ ?_|(intro _;first|omega|conv=>whnf))
 rw [hmod]
 exact hfin _
theorem sup_det {ev:Int}(hc:c.ok) (he:1≤ev∧ev≤2147483648) (he':1≤ev'∧ev'≤2147483648) (h:supX c ev=supX c ev'):ev=ev':=by
 have hid:=hc.id
 unfold u32B at hid
 have a:=rdSup_blk (I:=c.id.toNat) (A:=ev.toNat) (Q:=1) (T:=0) (by omega) (by omega) (by omega) (by omega)
 have b:=rdSup_blk (I:=c.id.toNat) (A:=ev'.toNat) (Q:=1) (T:=0) (by omega) (by omega) (by omega) (by omega)
 have h:supBlk c.id.toNat ev.toNat 1 0=supBlk c.id.toNat ev'.toNat 1 0:=h
 rw [h,b] at a
 simp only [Prod.mk.injEq] at a
 omega
theorem readO_use (h156:Con e 156 readO) {u:AV}{bs:List Nat}(hv:BAt v bs) (hr:readV bs=u) (Q:AV->St->Prop) (s:St) (q:Q u s):ESc e 156 [v] s Q:=by
 have h:readO [v] s=.ok u s:=by
  show (Option.rec .fail (fun bs=>.ok (readV bs) s) (bytesAt s v):RV)=_
  rw [bytes_at hv]
  show RV.ok (readV bs) s=_
  rw [hr]
 exact ESc.ov h156 h q
theorem sup_rd (h156:Con e 156 readO) {ev:Int}(hc:c.ok) (he:1≤ev∧ev≤2147483648) (Q:AV->St->Prop) (s:St) (q:Q (.tup [.agg [.int .u32 c.id,.int .u32 ev,.int .u32 1,.int .i64 0],.int .i64 0]) s):ESc e 156 [fzB (supX c ev)] s Q:=by
 have hid:=hc.id
 unfold u32B at hid
 have hX:=supX_ok c ev
 have hv:readV (supX c ev)=.tup [.agg [.int .u32 c.id,.int .u32 ev,.int .u32 1,.int .i64 0],.int .i64 0]:=by
  have:=readV_blk (I:=c.id.toNat) (A:=ev.toNat) (Q:=1) (T:=0) (by omega) (supX_may he)
  rw [Int.toNat_of_nonneg hid.1,Int.toNat_of_nonneg (by omega:0≤ev)] at this
  exact this
 exact readO_use h156 (fzB_at hX) hv Q s q
def firR (args:List AV) (u:AV):Prop:=∃ c x l ev,args=[.agg c.c,.agg l]∧dkC.r x l∧c.ok∧c.may∧JrP c x (supX c ev)∧(1≤ev∧ev≤2147483648)∧u=.tup [.agg [.int .u32 c.id,.int .u32 ev,.int .u32 1,.int .i64 0],.int .i64 0]
theorem cfg_inj (h:c.c=c'.c):c=c':=by
 obtain ⟨a,b,d,f,g,i⟩:=c
 obtain ⟨a',b',d',f',g',i'⟩:=c'
 unfold Cfg.c at h
 simp only [List.cons.injEq,AV.int.injEq,true_and,and_true] at h
 obtain ⟨rfl,rfl,rfl,rfl,rfl,rfl⟩:=h
 rfl
variable {x:Dk}{l:List AV}
theorem fir_use (h81:Con e 81 (relO firR)) {ev:Int}(hx:dkC.r x l) (hc:c.ok) (hM:c.may) (hJ:JrP c x (supX c ev)) (he:1≤ev∧ev≤2147483648) (Q:AV->St->Prop) (s:St) (q:Q (.tup [.agg [.int .u32 c.id,.int .u32 ev,.int .u32 1,.int .i64 0],.int .i64 0]) s):ESc e 81 [.agg c.c,.agg l] s Q:=by
 refine ESc.rel h81 ⟨_,c,x,l,ev,rfl,hx,hc,hM,hJ,he,rfl⟩ ?_
 rintro u ⟨c',x',l',ev',e1,hx',hc',hM',hJ',he',hu⟩
 simp only [List.cons.injEq,AV.agg.injEq,and_true] at e1
 obtain ⟨e1,rfl⟩:=e1
 have:=cfg_inj e1
 subst this
 have:=dkC.inj hx' hx
 subst this
 have:=sup_det hc he' he (hJ'.b.symm.trans hJ.b)
 subst this
 rw [hu];exact q
theorem fir_ok (hE:EM P e) (h23:Con e 23 drdF.O) (h41:Con e 41 journalF.O) (h96:Con e 96 dskF.O) (h156:Con e 156 readO):OvOk P 81 (relO firR):=by
 refine relO_of g81.b ?_
 rintro args u ⟨c,x,l,ev,rfl,hx,hc,hM,⟨jn,jk,js,jd,jb,jz⟩,he,rfl⟩
 have hM':=hM
 unfold Cfg.may at hM'
 have hlog:=Cfg.may_log hM
 have hid:=hc.id
 unfold u32B at hid
 have hlf:=dkC.hf hx
 refine ⟨by show (true && (hfs l && true))=true;rw [hlf];rfl,rfl,C.of_G hE g81 ?_⟩
 have hfin:∀ st,Frz st (.tup [.agg [.int .u32 c.id,.int .u32 ev,.int .u32 1,.int .i64 0],.int .i64 0]) (.tup [.agg [.int .u32 c.id,.int .u32 ev,.int .u32 1,.int .i64 0],.int .i64 0]):=fun st=>.plain _ rfl
 have hjo:∀ (Q:AV->St->Prop) s,Q (.tup [.int .i64 (c.log+1),.int .i64 0]) s->ESc e 41 [.agg c.c] s Q:=fun Q s k=>ESc.fam (e:=e) (k:=Q) (s:=s) journalF h41 c hc (by unfold journalF;dsimp only;rw [if_pos hM,if_pos hM]) k
 have hdk:=fun Q s a=>dch_use (e:=e) h96 hx js Q s (fun _=>a) (fun q=>absurd jk q)
 have hrd:=fun Q s q=>drd_use (e:=e) h23 hx js jk (a:=0) ⟨by omega,by omega⟩ Q s q
 have hsr:=fun Q s q=>sup_rd (e:=e) h156 hc he Q s q
 rw [jd,jb] at hrd
 replace hrd:∀ (Q:AV->St->Prop) s,Q (.tup [fzB (supX c ev),.int .i64 0]) s->ESc e 23 [.agg l,.int .i64 0] s Q:=hrd
 obtain ⟨bs,ws,dd⟩:=x
 obtain ⟨bv,wv,rfl,hbv,hwv⟩:=dk_of hx
 dsimp only at jd jn
 subst jd
 obtain ⟨cs,hs',-,-⟩:=hbv.nth
 unfold fzB at hrd hsr
 unfold Cfg.c at hjo ⊢
 generalize bys (supX c ev)=B at *
 generalize hO:AV.tup [.agg [.int .u32 c.id,.int .u32 ev,.int .u32 1,.int .i64 0],.int .i64 0]=O
 rw [hO] at hsr
 subst hO
 conv=>whnf
 repeat' (first|((first|refine hjo _ _ ?_|refine hdk _ _ ?_|refine EPrim.lenZ rfl hs' ?_|refine hrd _ _ ?_|refine hsr _ _ ?_);conv=>whnf)|refine nq4 ?_ ?_|refine nq6 ?_ ?_|(intro _;first|omega|conv=>whnf))
 exact hfin _
def nrdR (args:List AV) (u:AV):Prop:=args=[fzB zeB]∧u=.tup [.agg [.int .u32 0,.int .u32 0,.int .u32 0,.int .i64 0,.nils],.int .i64 90]
theorem nrd_use (h85:Con e 85 (relO nrdR)) (Q:AV->St->Prop) (s:St) (q:Q (.tup [.agg [.int .u32 0,.int .u32 0,.int .u32 0,.int .i64 0,.nils],.int .i64 90]) s):ESc e 85 [fzB zeB] s Q:=by
 refine ESc.rel h85 ⟨_,rfl,rfl⟩ ?_
 rintro u ⟨-,hu⟩
 rw [hu];exact q
def cd160:AC:=match a160 with|.mk c _=>c
def cd238:AC:=match a238 with|.mk c _=>c
def cd239:AC:=match a239 with|.mk c _=>c
def asg160:AC:=match rngIn cd160 with|some (a,_)=>a|none=>.skip
def body160:AC:=match rngIn cd160 with|some (_,b)=>b|none=>.skip
def tlWD:List (Nat×AV):=[(3,.ptr 0 0),(6,.ptr 1 0),(7,.ptr 2 0),(8,.ptr 3 0),(10,.ptr 4 0),(27,.fn 290 [] [.ptr 5 0,.ptr 7 0,.ptr 6 0])]
def osWD (c:Cfg) (bv wv:AV):List AObj:=[.row 24 c.c,.row 169 [.int .u32 0,.int .u32 0,.int .i64 0,.nils,.nils,.nils],.row 3 [.int .i64 0],.row 28 [.int .i64 0],.row 174 [.int .u32 0,.int .u32 0,.int .u32 0,.int .i64 0,.nils],.row 24 c.c,.row 74 [bv,wv,.bool false],.row 3 [.int .i64 0]]
noncomputable def osWR (c:Cfg) (bv wv:AV):List AObj:=osWD c bv wv++[.defd,.loop .ready none 0 (ofL tlWD) [28,29] asg160 body160 8]
def dlrR (args:List AV) (u:AV):Prop:=∃ c x l ev,args=[.agg c.c,.agg l,.int .i64 0]∧dkC.r x l∧c.ok∧c.may∧JrP c x (supX c ev)∧u=.tup [.agg [.int .u32 0,.int .u32 0,.int .i64 0,.nils,.nils,.nils],.int .i64 0,.int .i64 130]
theorem dlr_use (h160:Con e 160 (relO dlrR)) {ev:Int}(hx:dkC.r x l) (hc:c.ok) (hM:c.may) (hJ:JrP c x (supX c ev)) (Q:AV->St->Prop) (s:St) (q:Q (.tup [.agg [.int .u32 0,.int .u32 0,.int .i64 0,.nils,.nils,.nils],.int .i64 0,.int .i64 130]) s):ESc e 160 [.agg c.c,.agg l,.int .i64 0] s Q:=by
 refine ESc.rel h160 ⟨_,c,x,l,ev,rfl,hx,hc,hM,hJ,rfl⟩ ?_
 rintro u ⟨_,_,_,_,-,-,-,-,-,hu⟩
 rw [hu];exact q
theorem dlr_ok (hE:EM P e) (h23:Con e 23 drdF.O) (h41:Con e 41 journalF.O) (h85:Con e 85 (relO nrdR)) (h96:Con e 96 dskF.O) (h159:Con e 159 (relO on0R)) (h238:Inl e 238 cd238 [.tmp 6]) (h239:Inl e 239 cd239 [.tmp 6]):OvOk P 160 (relO dlrR):=by
 refine relO_of g160.b ?_
 rintro args u ⟨c,x,l,ev,rfl,hx,hc,hM,⟨jn,jk,js,jd,jb,jz⟩,rfl⟩
 have hM':=hM
 unfold Cfg.may at hM'
 have hlog:=Cfg.may_log hM
 have hlf:=dkC.hf hx
 refine ⟨by show (true && (hfs l && _))=true;rw [hlf];rfl,rfl,C.of_G hE g160 ?_⟩
 have hfin:∀ st,Frz st (.tup [.agg [.int .u32 0,.int .u32 0,.int .i64 0,.nils,.nils,.nils],.int .i64 0,.int .i64 130]) (.tup [.agg [.int .u32 0,.int .u32 0,.int .i64 0,.nils,.nils,.nils],.int .i64 0,.int .i64 130]):=fun st=>.plain _ rfl
 have hjo:∀ (Q:AV->St->Prop) s,Q (.tup [.int .i64 (c.log+1),.int .i64 0]) s->ESc e 41 [.agg c.c] s Q:=fun Q s k=>ESc.fam (e:=e) (k:=Q) (s:=s) journalF h41 c hc (by unfold journalF;dsimp only;rw [if_pos hM,if_pos hM]) k
 have hdk:=fun Q s a=>dch_use (e:=e) h96 hx js Q s (fun _=>a) (fun q=>absurd jk q)
 have hrd:=fun Q s q=>drd_use (e:=e) h23 hx js jk (a:=1+0) ⟨by omega,by omega⟩ Q s q
 have hon:=fun Q s q=>on0_use (e:=e) (n:=c.log) h159 (by omega) Q s q
 have hnr:=fun Q s q=>nrd_use (e:=e) h85 Q s q
 rw [jd,jz (1+0) (by omega)] at hrd
 replace hrd:∀ (Q:AV->St->Prop) s,Q (.tup [fzB zeB,.int .i64 0]) s->ESc e 23 [.agg l,.int .i64 (1+0)] s Q:=hrd
 obtain ⟨bs,ws,dd⟩:=x
 obtain ⟨bv,wv,rfl,hbv,hwv⟩:=dk_of hx
 dsimp only at jd jn
 subst jd
 obtain ⟨cs,hs',-,-⟩:=hbv.nth
 have hdf:hfs [bv,wv,.bool false]=true:=hlf
 unfold fzB at hrd hnr
 generalize bys zeB=B at *
 have hcl:c.c=[.int .u32 c.id,.int .i64 c.members,.int .i64 c.chunk,.int .i64 c.rows,.int .i64 c.log,.int .i64 c.heads]:=rfl
 rw [hcl] at hjo ⊢
 conv=>whnf
 repeat' (first|((first|refine ESc.inl h238 ?_|refine ESc.inl h239 ?_|refine hjo _ _ ?_|refine hdk _ _ ?_|refine EPrim.lenZ rfl hs' ?_);conv=>whnf)|refine nq1 ?_ ?_|refine nq4 ?_ ?_|refine nq6 ?_ ?_|(intro _;first|omega|conv=>whnf))
 refine EPrim.mk (v:=.bool false) (fun e rec=>rfl) ?_;conv=>whnf
 repeat' (first|(refine ESc.inl h239 ?_;conv=>whnf)|fail)
 refine W.tells (Abs.tells (tl:=tlWD) (os:=osWD c bv wv) (rs:=[0,2,3,4,7,8,9,10]) ⟨by decide,⟨r9,r9,r9,r9,r9,r9,trivial⟩,⟨r9,r9,r9,r9,r9,r9,o9 hdf,r9,trivial⟩⟩) ?_
 refine W.rngI (f:=290) (first:=[]) (cap:=[.ptr 5 0,.ptr 7 0,.ptr 6 0]) g290.b rfl ?_ ?_
 ·intro q hq
  have hq:q<8:=hq
  rcases q with _|_|_|_|_|_|_|_|q
  ·exact .tmp 3 (.ptr 0 0) rfl rfl
  ·exact .tmp 6 (.ptr 1 0) rfl rfl
  ·exact .tmp 7 (.ptr 2 0) rfl rfl
  ·exact .tmp 8 (.ptr 3 0) rfl rfl
  ·exact .tmp 10 (.ptr 4 0) rfl rfl
  ·exact .tmp 27 (.fn 290 [] [.ptr 5 0,.ptr 7 0,.ptr 6 0]) rfl rfl
  ·exact .tmp 27 (.fn 290 [] [.ptr 5 0,.ptr 7 0,.ptr 6 0]) rfl rfl
  ·exact .tmp 27 (.fn 290 [] [.ptr 5 0,.ptr 7 0,.ptr 6 0]) rfl rfl
  ·omega
 show C1 P 290 [.yld 9,.ptr 5 0,.ptr 7 0,.ptr 6 0] (allocs St0 (osWR c bv wv)) (fun _ s'=>RngOut 9 [8] (ofL tlWD) s' _)
 refine C1.of_G hE g290 ?_;conv=>whnf
 have hlb:∀ n,bdO 10 n (.loop .ready none 0 (ofL tlWD) [28,29] asg160 body160 8)=true:=fun _=>rfl
 refine W.loopT (k:=10) (α:=Nat) (fun i=>[(0,.yld 9),(1,.ptr 5 0),(2,.ptr 7 0),(3,.ptr 6 0),(11,.int .i64 c.log),(12,.int .i64 0)]) (fun _=>osWR c bv wv) (fun i=>i) (fun i=>i=0) 0 rfl (AbsK.tells (rs:=[0,1,2,3,4,5,6,7,8,9]) ⟨rfl,by decide,⟨r9,r9,r9,r9,r9,r9,trivial⟩,⟨r9,r9,r9,r9,r9,r9,o9 hdf,r9,r9,⟨hlb _,rfl⟩,trivial⟩⟩) ?_
 rintro i -
 refine vs_sound hE ?_;conv=>whnf
 repeat' (first|((first|refine hon _ _ ?_|refine hrd _ _ ?_|refine nq7 ?_);conv=>whnf)|refine nq1 ?_ ?_|(intro _;first|omega|conv=>whnf))
 refine ERound.mk ?_;conv=>whnf
 repeat' (first|((first|refine hnr _ _ ?_|refine nq13 ?_);conv=>whnf)|refine nq5 ?_ ?_|refine nq6 ?_ ?_|(intro _;first|omega|conv=>whnf))
 exact hfin _
def cd24:AC:=match a24 with|.mk c _=>c
def cd82:AC:=match a82 with|.mk c _=>c
def cd158:AC:=match a158 with|.mk c _=>c
def asg24:AC:=match rngIn cd24 with|some (a,_)=>a|none=>.skip
def body24:AC:=match rngIn cd24 with|some (_,b)=>b|none=>.skip
def tlWA:List (Nat×AV):=[(2,.ptr 0 0),(3,.ptr 1 0),(4,.ptr 2 0),(5,.ptr 3 0),(6,.int .i64 0),(23,.fn 157 [] [.ptr 4 0,.ptr 6 0,.ptr 5 0])]
def osWA (c:Cfg) (bv wv:AV) (ev:Int):List AObj:=[.row 24 c.c,.row 74 [bv,wv,.bool false],.row 76 [.int .u32 c.id,.int .u32 ev,.int .u32 1,.int .i64 0],.row 77 [.nils],.row 24 c.c,.row 74 [bv,wv,.bool false],.row 3 [.int .i64 0]]
noncomputable def osWB (c:Cfg) (bv wv:AV) (ev:Int):List AObj:=osWA c bv wv ev++[.defd,.loop .ready none 0 (ofL tlWA) [24,25] asg24 body24 7,.row 268 [.yld 8],.row 3 [.int .i64 0]]
def allR (args:List AV) (u:AV):Prop:=∃ c x l ev,args=[.agg c.c,.agg l]∧dkC.r x l∧c.ok∧c.may∧JrP c x (supX c ev)∧(1≤ev∧ev≤2147483648)∧u=.tup [.agg [.int .u32 c.id,.int .u32 ev,.int .u32 1,.int .i64 0],.nils,.int .i64 0]
theorem all_use (h24:Con e 24 (relO allR)) {ev:Int}(hx:dkC.r x l) (hc:c.ok) (hM:c.may) (hJ:JrP c x (supX c ev)) (he:1≤ev∧ev≤2147483648) (Q:AV->St->Prop) (s:St) (q:Q (.tup [.agg [.int .u32 c.id,.int .u32 ev,.int .u32 1,.int .i64 0],.nils,.int .i64 0]) s):ESc e 24 [.agg c.c,.agg l] s Q:=by
 refine ESc.rel h24 ⟨_,c,x,l,ev,rfl,hx,hc,hM,hJ,he,rfl⟩ ?_
 rintro u ⟨c',x',l',ev',e1,hx',hc',hM',hJ',he',hu⟩
 simp only [List.cons.injEq,AV.agg.injEq,and_true] at e1
 obtain ⟨e1,rfl⟩:=e1
 have:=cfg_inj e1
 subst this
 have:=dkC.inj hx' hx
 subst this
 have:=sup_det hc he' he (hJ'.b.symm.trans hJ.b)
 subst this
 rw [hu];exact q
theorem all_ok (hE:EM P e) (h81:Con e 81 (relO firR)) (h82:Inl e 82 cd82 [.tmp 6]) (h158:Inl e 158 cd158 [.tmp 5]) (h159:Con e 159 (relO on0R)) (h160:Con e 160 (relO dlrR)):OvOk P 24 (relO allR):=by
 refine relO_of g24.b ?_
 rintro args u ⟨c,x,l,ev,rfl,hx,hc,hM,hJ,he,rfl⟩
 have hM':=hM
 unfold Cfg.may at hM'
 have hlog:=Cfg.may_log hM
 have hlf:=dkC.hf hx
 refine ⟨by show (true && (hfs l && true))=true;rw [hlf];rfl,rfl,C.of_G hE g24 ?_⟩
 have hfin:∀ st,Frz st (.tup [.agg [.int .u32 c.id,.int .u32 ev,.int .u32 1,.int .i64 0],.nils,.int .i64 0]) (.tup [.agg [.int .u32 c.id,.int .u32 ev,.int .u32 1,.int .i64 0],.nils,.int .i64 0]):=fun st=>.plain _ rfl
 have hfi:=fun Q s q=>fir_use (e:=e) h81 hx hc hM hJ he Q s q
 have hon:=fun Q s q=>on0_use (e:=e) (n:=c.log) h159 (by omega) Q s q
 have hdl:=fun Q s q=>dlr_use (e:=e) h160 hx hc hM hJ Q s q
 have jd:=hJ.d
 obtain ⟨bs,ws,dd⟩:=x
 obtain ⟨bv,wv,rfl,hbv,hwv⟩:=dk_of hx
 dsimp only at jd
 subst jd
 have hdf:hfs [bv,wv,.bool false]=true:=hlf
 have hcl:c.c=[.int .u32 c.id,.int .i64 c.members,.int .i64 c.chunk,.int .i64 c.rows,.int .i64 c.log,.int .i64 c.heads]:=rfl
 rw [hcl] at hfi hdl ⊢
 conv=>whnf
 repeat' (first|((first|refine ESc.inl h82 ?_|refine hfi _ _ ?_);conv=>whnf)|refine nq6 ?_ ?_|(intro _;first|omega|conv=>whnf))
 refine W.tells (Abs.tells (tl:=tlWA) (os:=osWA c bv wv ev) (rs:=[0,1,2,3,4,5,6]) ⟨by decide,⟨r9,r9,r9,r9,r9,r9,trivial⟩,⟨r9,o9 hdf,r9,r9,r9,o9 hdf,r9,trivial⟩⟩) ?_
 refine W.rngI (f:=157) (first:=[]) (cap:=[.ptr 4 0,.ptr 6 0,.ptr 5 0]) g157.b rfl ?_ ?_
 ·intro q hq
  have hq:q<7:=hq
  rcases q with _|_|_|_|_|_|_|q
  ·exact .tmp 2 (.ptr 0 0) rfl rfl
  ·exact .tmp 3 (.ptr 1 0) rfl rfl
  ·exact .tmp 4 (.ptr 2 0) rfl rfl
  ·exact .tmp 5 (.ptr 3 0) rfl rfl
  ·exact .tmp 23 (.fn 157 [] [.ptr 4 0,.ptr 6 0,.ptr 5 0]) rfl rfl
  ·exact .tmp 23 (.fn 157 [] [.ptr 4 0,.ptr 6 0,.ptr 5 0]) rfl rfl
  ·exact .tmp 23 (.fn 157 [] [.ptr 4 0,.ptr 6 0,.ptr 5 0]) rfl rfl
  ·omega
 show C1 P 157 [.yld 8,.ptr 4 0,.ptr 6 0,.ptr 5 0] (allocs St0 (osWA c bv wv ev++[.defd,.loop .ready none 0 (ofL tlWA) [24,25] asg24 body24 7])) (fun _ s'=>RngOut 8 [7] (ofL tlWA) s' _)
 refine C1.of_G hE g157 ?_;conv=>whnf
 have hlb:∀ n,bdO 9 n (.loop .ready none 0 (ofL tlWA) [24,25] asg24 body24 7)=true:=fun _=>rfl
 refine W.loopT (k:=9) (α:=Nat) (fun i=>[(0,.yld 8),(1,.ptr 4 0),(2,.ptr 6 0),(3,.ptr 5 0),(4,.ptr 9 0),(5,.ptr 10 0),(6,.fn 158 [] [.ptr 4 0,.ptr 6 0,.ptr 10 0,.ptr 5 0,.ptr 9 0])]) (fun _=>osWB c bv wv ev) (fun i=>i) (fun i=>i=0) 0 rfl (AbsK.tells (rs:=[0,1,2,3,4,5,6,7,8,9,10]) ⟨rfl,by decide,⟨r9,r9,r9,r9,r9,r9,r9,trivial⟩,⟨r9,o9 hdf,r9,r9,r9,o9 hdf,r9,r9,⟨hlb _,rfl⟩,r9,r9,trivial⟩⟩) ?_
 rintro i -
 refine vs_sound hE ?_;conv=>whnf
 repeat' (first|((first|refine ECall.inl h158.O h158.G ?_|refine hon _ _ ?_|refine hdl _ _ ?_|refine nq7 ?_|refine ⟨rfl,?_⟩);conv=>whnf)|refine nq1 ?_ ?_|refine nq5 ?_ ?_|(intro _;first|omega|conv=>whnf))
 exact hfin _
theorem lbw_use (h43:Con e 43 (relO lbwR)) {ev me dn:Int}(hc:c.ok) (hM:c.may) (hP:lbP c ev me lo dn) (Q:AV->St->Prop) (s:St) (q:Q (.tup [.fz 128 (some 128) (bys (lbX (lbF c ev me lo dn op))),.int .i64 0]) s):ESc e 43 [.agg (lbC c ev me lo dn op)] s Q:=by
 refine ESc.rel h43 ⟨_,c,ev,me,lo,dn,op,rfl,hc,hM,hP,rfl⟩ ?_
 rintro u ⟨c',ev',me',lo',dn',op',e1,-,-,-,hu⟩
 have e3:lbF c' ev' me' lo' dn' op'=lbF c ev me lo dn op:=by
  have e1:=(List.cons.inj e1).1
  injection e1 with e1
  unfold lbC at e1
  simp only [List.cons.injEq,AV.int.injEq,AV.bool.injEq,true_and,and_true] at e1
  obtain ⟨q1,q2,q3,q4,q5,q6,q7,q8,q9,q10⟩:=e1
  unfold lbF
  rw [q1,q2,q3,q4,q5,q6,q7,q8,q9,q10]
 rw [hu,e3];exact q
variable {b:List Nat}
theorem fua_fr (h44:Con e 44 fuaF.O) {n:Nat}(h1:1≤n) (h2:n≤256) (hb:b.length=128∧∀ x ∈ b,x<256) (hv:BAt v b) (Q:AV->St->Prop) (s:St) (q:Q (.tup [.agg (frD n b).c,.int .i64 0]) s):ESc e 44 [.agg (nwA n),.int .i64 0,v] s Q:=by
 refine ESc.fam (e:=e) (k:=Q) (s:=s) fuaF h44 ⟨nwD n,0,v,b⟩ ⟨nwD_ok h2,by show i64B 0;unfold i64B;omega,hv,by show b.length<_;omega⟩ (u:=.tup [.agg (frD n b).c,.int .i64 0]) ?_ q
 show fuaOut _=_
 unfold fuaOut
 rw [if_pos (fr_wrt h1 h2 hb.1)];rfl
theorem sup_wr (h45:Con e 45 wrF.O) {ev:Int}(hc:c.ok) (he:1≤ev∧ev≤2147483648) (Q:AV->St->Prop) (s:St) (q:Q (.tup [.fz 128 (some 128) (bys (supX c ev)),.int .i64 0]) s):ESc e 45 [.agg [.int .u32 c.id,.int .u32 ev,.int .u32 1,.int .i64 0]] s Q:=by
 have hid:=hc.id
 unfold u32B at hid
 refine ESc.fam (e:=e) (k:=Q) (s:=s) wrF h45 ⟨c.id,ev,1,0⟩ ⟨hid,by show (0:Int)≤ev∧ev<4294967296;omega,by show (0:Int)≤1∧(1:Int)<4294967296;omega⟩ (u:=.tup [.fz 128 (some 128) (bys (supX c ev)),.int .i64 0]) ?_ q
 have hb:Sup.b ⟨c.id,ev,1,0⟩=true:=by
  unfold Sup.b supB numB
  dsimp only
  rw [decide_eq_true (by omega),decide_eq_true (by omega),decide_eq_true (by omega)];rfl
 unfold wrF
 dsimp only
 rw [if_pos hb];rfl
theorem fz128_at (h:b.length=128∧∀ y ∈ b,y<256):BAt (.fz 128 (some 128) (bys b)) b:=⟨.inr (.inr ⟨some 128,by rw [h.1],by rw [bys_length];omega⟩),h.2⟩
theorem fmM_succ (c:Cfg) (n:Nat):dkc (fmM c (n+1))=dkc (fmM c n)++(fmD c n).c:=by
 unfold fmM dkc
 rw [List.range_succ,List.map_append,List.flatMap_append];simp
theorem fmM_len (c:Cfg) (n:Nat):(dkc (fmM c n)).length=n*3:=by
 rw [dkc_len];unfold fmM;simp
noncomputable def fmtV (c:Cfg):AV:=if c.may then .tup [fzY (fmY c (supX c 1)),.int .i64 0] else .tup [.nils,.int .i64 8]
noncomputable def fmtF:Fam Cfg:=⟨Cfg.ok,fun x=>[x.v],fmtV,fun x y _ _ h=>by rw [Cfg.injv (List.cons.inj h).1]⟩
theorem fmt_ok (hE:EM P e) (h40:Con e 40 memF.O) (h41:Con e 41 journalF.O) (h42:Con e 42 (relO nwR)) (h43:Con e 43 (relO lbwR)) (h44:Con e 44 fuaF.O) (h45:Con e 45 wrF.O):OvOk P 10 fmtF.O:=by
 refine Fam.ok_of g10.b ?_
 intro c hc
 have hc:c.ok:=hc
 have hid:=hc.id
 unfold u32B at hid
 by_cases hM:c.may
 ·have hS:=supX_ok c 1
  have hok:=(fm_ok hM hc hS).2.1
  have hM':=hM
  unfold Cfg.may at hM'
  have hlog:=Cfg.may_log hM
  have hmm:=may_mul hM
  have hout:fmtF.out c=.tup [fzY (fmY c (supX c 1)),.int .i64 0]:=by show fmtV c=_;unfold fmtV;rw [if_pos hM]
  refine ⟨rfl,by rw [hout];rfl,C.of_G hE g10 ?_⟩
  rw [hout]
  have hn1:1≤(stripesN c+1).toNat∧(stripesN c+1).toNat≤256∧((stripesN c+1).toNat:Int)=c.chunk*c.rows+1:=by unfold stripesN at *;omega
  have hn2:1≤(c.log+1).toNat∧(c.log+1).toNat≤256∧((c.log+1).toNat:Int)=c.log+1:=by omega
  have hme:∀ (Q:AV->St->Prop) s,Q (.tup [.int .i64 ((stripesN c+1).toNat:Int),.int .i64 0]) s->ESc e 40 [.agg c.c] s Q:=fun Q s k=>ESc.fam (e:=e) (k:=Q) (s:=s) memF h40 c hc (by unfold memF;dsimp only;rw [if_pos hM,if_pos hM,hn1.2.2]) k
  have hjo:∀ (Q:AV->St->Prop) s,Q (.tup [.int .i64 ((c.log+1).toNat:Int),.int .i64 0]) s->ESc e 41 [.agg c.c] s Q:=fun Q s k=>ESc.fam (e:=e) (k:=Q) (s:=s) journalF h41 c hc (by unfold journalF;dsimp only;rw [if_pos hM,if_pos hM,hn2.2.2]) k
  have hnm:=fun Q s q=>nw_use (e:=e) h42 hn1.1 hn1.2.1 Q s q
  have hnj:=fun Q s q=>nw_use (e:=e) h42 hn2.1 hn2.2.1 Q s q
  have hlw:=fun {i:Nat}(hi:(i:Int)<c.members) Q s q=>lbw_use (e:=e) (ev:=1) (me:=(i:Int)) (lo:=-1) (dn:=0) (op:=false) h43 hc hM ⟨by omega,by omega,by omega,by omega,fun _=>rfl⟩ Q s q
  have hfu:=fun {i:Nat} Q s q=>fua_fr (e:=e) h44 hn1.1 hn1.2.1 (lbX_ok (lbF c 1 (i:Int) (-1) 0 false)) (fz128_at (lbX_ok _)) Q s q
  have hfj:=fun Q s q=>fua_fr (e:=e) h44 hn2.1 hn2.2.1 hS (fz128_at hS) Q s q
  have hsw:=fun Q s q=>sup_wr (e:=e) (ev:=1) h45 hc (by omega) Q s q
  have hyf:hfs (dkc (fmY c (supX c 1)))=true:=dkc_hf hok
  have hm0:∃ M:Nat,c.members=M∧c.members.toNat=M∧M≤16∧3≤M:=⟨c.members.toNat,by omega,rfl,by omega,by omega⟩
  obtain ⟨M,m1,m2,m3,m4⟩:=hm0
  have hmf:∀ i,i≤M->hfs (dkc (fmM c i))=true:=fun i hi=>dkc_hf fun y hy=>by
   unfold fmM at hy
   obtain ⟨j,hj,rfl⟩:=List.mem_map.1 hy
   exact (frD_ok hn1.1 hn1.2.1 (lbX_ok _)).1
  have hY:dkc (fmY c (supX c 1))=dkc (fmM c M)++(frD (c.log+1).toNat (supX c 1)).c:=by
   unfold fmY
   rw [m2]
   unfold dkc
   rw [List.flatMap_append];simp
  have hfin:∀ st r,st.get r=some (.row 74 (dkc (fmM c M)++(frD (c.log+1).toNat (supX c 1)).c))->Frz st (.tup [.sl r 0 (M+1) none,.int .i64 0]) (.tup [fzY (fmY c (supX c 1)),.int .i64 0]):=fun st r hg=>by
   rw [← hY] at hg
   unfold fzY
   rw [fmY_len,m2]
   exact .tup _ _ (.cons (.sl r 0 _ _ _ 74 _ _ _ hg (fun i x hx=>by rw [Nat.zero_add];exact hx) (frz_hfs hyf) (.inl rfl)) (.cons (.plain _ rfl) .nil))
  generalize AV.tup [fzY (fmY c (supX c 1)),.int .i64 0]=O at hfin ⊢
  have hcl:c.c=[.int .u32 c.id,.int .i64 c.members,.int .i64 c.chunk,.int .i64 c.rows,.int .i64 c.log,.int .i64 c.heads]:=rfl
  unfold nwA at hnm hnj hfu hfj
  show VW P e 0 _ (initT [.agg c.c] 0 .lf) St0 none [] _
  rw [hcl] at hme hjo ⊢
  conv=>whnf
  repeat' (first|((first|refine hme _ _ ?_|refine hjo _ _ ?_);conv=>whnf)|refine nq6 ?_ ?_|(intro _;first|omega|conv=>whnf))
  refine W.up hE M (fun i=>[(1,.ptr 0 0),(2,slO i 1),(4,.int .i64 ((stripesN c+1).toNat:Int)),(5,.int .i64 ((c.log+1).toNat:Int)),(30,.int .i64 c.members),(31,.int .i64 (i:Int))]) (fun i=>rw2 (.row 24 c.c) (.row 74 (dkc (fmM c i))) i) (fun _=>True) trivial (Abs.tells (rs:=[0]) .a) ?_
  intro i hi _
  by_cases hlt:i<M
  ·have hli:=hlw (i:=i) (by omega)
   have hf1:=hmf (i+1) (by omega)
   have hfu:=hfu (i:=i)
   have hsu:=fmM_succ c i
   have hln:=fmM_len c i
   unfold lbC at hli
   generalize bys (lbX (lbF c 1 (i:Int) (-1) 0 false))=B at *
   have hyc:(fmD c i).c=[(fmD c i).bv,(fmD c i).wv,.bool (fmD c i).dead]:=rfl
   replace hfu:∀ (Q:AV->St->Prop) s,Q (.tup [.agg (fmD c i).c,.int .i64 0]) s->_:=hfu
   rw [hyc] at hfu hsu
   generalize (fmD c i).bv=bv at *
   generalize (fmD c i).wv=wv at *
   generalize (fmD c i).dead=dd at *
   rw [hsu] at hf1 ⊢
   rw [hcl]
   rcases i with _|i
   ·conv=>whnf
    repeat' (first|((first|refine hnm _ _ ?_|refine hli _ _ ?_|refine hfu _ _ ?_|refine nq25 (m:=1) ?_|refine nq7 ?_|refine ⟨rfl,?_⟩);conv=>whnf)|refine nq1 ?_ ?_|(intro _;first|omega|conv=>whnf))
    exact ⟨hlt,trivial,Abs.tells (rs:=[0,3]) ⟨by decide,⟨r9,r9,r9,r9,r9,r9,trivial⟩,⟨r9,o9 hf1,trivial⟩⟩⟩
   ·conv=>whnf
    repeat' (first|((first|refine hnm _ _ ?_|refine hli _ _ ?_|refine hfu _ _ ?_|refine EPrim.appU (m:=1) (n:=i+1) (old:=dkc (fmM c (i+1))) rfl rfl rfl rfl hln rfl (by decide) (by omega) ?_|refine nq7 ?_|refine ⟨rfl,?_⟩);conv=>whnf)|refine nq1 ?_ ?_|(intro _;first|omega|conv=>whnf))
    exact ⟨hlt,trivial,Abs.tells (rs:=[0,4]) ⟨by decide,⟨r9,r9,r9,r9,r9,r9,trivial⟩,⟨r9,o9 hf1,trivial⟩⟩⟩
  ·have hiM:i=M:=by omega
   subst hiM
   obtain ⟨K,rfl⟩:∃ K,i=K+1:=⟨i-1,by omega⟩
   have hln:=fmM_len c (K+1)
   have hyc:(frD (c.log+1).toNat (supX c 1)).c=[(frD (c.log+1).toNat (supX c 1)).bv,(frD (c.log+1).toNat (supX c 1)).wv,.bool (frD (c.log+1).toNat (supX c 1)).dead]:=rfl
   rw [hyc] at hfj hfin
   generalize bys (supX c 1)=B at *
   generalize (frD (c.log+1).toNat (supX c 1)).bv=bv at *
   generalize (frD (c.log+1).toNat (supX c 1)).wv=wv at *
   generalize (frD (c.log+1).toNat (supX c 1)).dead=dd at *
   generalize dkc (fmM c (K+1))=Y at *
   rw [hcl]
   conv=>whnf
   repeat' (first|((first|refine hnj _ _ ?_|refine hsw _ _ ?_|refine hfj _ _ ?_|refine EPrim.appU (m:=1) (n:=K+1) (old:=Y) rfl rfl rfl rfl hln rfl (by decide) (by omega) ?_);conv=>whnf)|refine nq1 ?_ ?_|(intro _;first|omega|conv=>whnf))
   exact hfin _ _ rfl
 ·have hout:fmtF.out c=.tup [.nils,.int .i64 8]:=by show fmtV c=_;unfold fmtV;rw [if_neg hM]
  refine ⟨rfl,by rw [hout];rfl,C.of_G hE g10 ?_⟩
  rw [hout]
  have hme:∀ (Q:AV->St->Prop) s,Q (.tup [.int .i64 0,.int .i64 8]) s->ESc e 40 [.agg c.c] s Q:=fun Q s k=>ESc.fam (e:=e) (k:=Q) (s:=s) memF h40 c hc (by unfold memF;dsimp only;rw [if_neg hM,if_neg hM]) k
  have hcl:c.c=[.int .u32 c.id,.int .i64 c.members,.int .i64 c.chunk,.int .i64 c.rows,.int .i64 c.log,.int .i64 c.heads]:=rfl
  show VW P e 0 _ (initT [.agg c.c] 0 .lf) St0 none [] _
  rw [hcl] at hme ⊢
  conv=>whnf
  repeat' (first|(refine hme _ _ ?_;conv=>whnf)|refine nq6 ?_ ?_|(intro _;first|omega|conv=>whnf))
  exact .plain _ rfl
def cw127:AC:=match a127 with|.mk c _=>c
def cw211:AC:=match a211 with|.mk c _=>c
def redR (args:List AV) (u:AV):Prop:=∃ c o l,args=[.agg c.c,.agg l,.nils]∧loC.r o l∧c.ok∧c.may∧loB c o∧u=.tup [.nils,.nils,.int .i64 0]
theorem red_use (h60:Con e 60 (relO redR)) {o:Lo}(hl:loC.r o l) (hc:c.ok) (hM:c.may) (hL:loB c o) (Q:AV->St->Prop) (s:St) (q:Q (.tup [.nils,.nils,.int .i64 0]) s):ESc e 60 [.agg c.c,.agg l,.nils] s Q:=by
 refine ESc.rel h60 ⟨_,c,o,l,rfl,hl,hc,hM,hL,rfl⟩ ?_
 rintro u ⟨_,_,_,-,-,-,-,-,hu⟩
 rw [hu];exact q
theorem red_ok (hE:EM P e) (h32:Con e 32 lossF.O) (h127:Inl e 127 cw127 [.tmp 4]):OvOk P 60 (relO redR):=by
 refine relO_of g60.b ?_
 rintro args u ⟨c,⟨ev,lo,sp,po,dn,nl,br⟩,l,rfl,hl,hc,hM,hL,rfl⟩
 have hck:=fun (Q:AV->St->Prop) s a=>@cF.u _ _ _ _ e 32 s Q _ h32 (c,(ev,lo,sp,po,dn,nl,br),()) ⟨_,_,rfl,⟨rfl,hc⟩,_,_,rfl,hl,rfl⟩ trivial (fun _=>a) (fun q=>absurd (And.intro hM hL) q)
 obtain ⟨rfl,h1,h2,h3,h4⟩:=lo_of hl
 refine ⟨rfl,rfl,C.of_G hE g60 ?_⟩
 have hfin:∀ st,Frz st (.tup [.nils,.nils,.int .i64 0]) (.tup [.nils,.nils,.int .i64 0]):=fun st=>.plain _ rfl
 have hcl:c.c=[.int .u32 c.id,.int .i64 c.members,.int .i64 c.chunk,.int .i64 c.rows,.int .i64 c.log,.int .i64 c.heads]:=rfl
 dsimp only at hck
 rw [hcl] at hck ⊢
 conv=>whnf
 repeat' (first|((first|refine hck _ _ ?_|refine ESc.inl h127 ?_|refine EExec.loop ?_|refine nq16 ?_);conv=>whnf)|refine nq1 ?_ ?_|refine nq3 ?_ ?_|refine nq6 ?_ ?_|(intro _;first|omega|conv=>whnf))
 refine W.loop0 hE ?_;conv=>whnf
 repeat' (first|refine nq1 ?_ ?_|(intro _;first|omega|conv=>whnf))
 exact hfin _
def lnwR (args:List AV) (u:AV):Prop:=∃ ev:Int,args=[.int .u32 ev,.int .u32 1,.int .i64 0]∧(1≤ev∧ev≤2147483648)∧u=.tup [.agg [.int .u32 ev,.int .u32 1,.int .i64 0,.int .i64 0,.nils],.int .i64 0]
theorem lnw_use (h54:Con e 54 (relO lnwR)) {ev:Int}(he:1≤ev∧ev≤2147483648) (Q:AV->St->Prop) (s:St) (q:Q (.tup [.agg [.int .u32 ev,.int .u32 1,.int .i64 0,.int .i64 0,.nils],.int .i64 0]) s):ESc e 54 [.int .u32 ev,.int .u32 1,.int .i64 0] s Q:=by
 refine ESc.rel h54 ⟨_,ev,rfl,he,rfl⟩ ?_
 rintro u ⟨ev',e1,-,hu⟩
 simp only [List.cons.injEq,AV.int.injEq,true_and,and_true] at e1
 rw [hu,← e1];exact q
theorem lnw_ok (hE:EM P e) (h110:Con e 110 chkF.O):OvOk P 54 (relO lnwR):=by
 refine relO_of g54.b ?_
 rintro args u ⟨ev,rfl,he,rfl⟩
 refine ⟨rfl,rfl,C.of_G hE g54 ?_⟩
 have hfin:∀ st,Frz st (.tup [.agg [.int .u32 ev,.int .u32 1,.int .i64 0,.int .i64 0,.nils],.int .i64 0]) (.tup [.agg [.int .u32 ev,.int .u32 1,.int .i64 0,.int .i64 0,.nils],.int .i64 0]):=fun st=>.plain _ rfl
 have hck:∀ (Q:AV->St->Prop) s,Q (.int .i64 0) s->ESc e 110 [.agg [.int .u32 0,.int .u32 ev,.int .u32 1,.int .i64 0]] s Q:=fun Q s q=>by
  refine ESc.fam (e:=e) (k:=Q) (s:=s) chkF h110 ⟨0,ev,1,0⟩ ⟨by show (0:Int)≤0∧(0:Int)<4294967296;omega,by show (0:Int)≤ev∧ev<4294967296;omega,by show (0:Int)≤1∧(1:Int)<4294967296;omega⟩ (u:=.int .i64 0) ?_ q
  have hb:Sup.b ⟨0,ev,1,0⟩=true:=by
   unfold Sup.b supB numB
   dsimp only
   rw [decide_eq_true (by omega),decide_eq_true (by omega),decide_eq_true (by omega)];rfl
  unfold chkF
  dsimp only
  rw [hb];rfl
 conv=>whnf
 repeat' (first|(refine hck _ _ ?_;conv=>whnf)|refine nq6 ?_ ?_|(intro _;first|omega|conv=>whnf))
 exact hfin _
def lflR (args:List AV) (u:AV):Prop:=∃ (c:Cfg) (ev:Int),args=[.agg c.c,.agg [.int .u32 ev,.int .u32 1,.int .i64 0,.int .i64 0,.nils]]∧c.ok∧c.may∧(1≤ev∧ev≤2147483648)∧u=.tup [.agg [.int .u32 ev,.int .u32 1,.int .i64 0,.int .i64 0,.nils],.int .i64 0]
theorem lfl_use (h136:Con e 136 (relO lflR)) {ev:Int}(hc:c.ok) (hM:c.may) (he:1≤ev∧ev≤2147483648) (Q:AV->St->Prop) (s:St) (q:Q (.tup [.agg [.int .u32 ev,.int .u32 1,.int .i64 0,.int .i64 0,.nils],.int .i64 0]) s):ESc e 136 [.agg c.c,.agg [.int .u32 ev,.int .u32 1,.int .i64 0,.int .i64 0,.nils]] s Q:=by
 refine ESc.rel h136 ⟨_,c,ev,rfl,hc,hM,he,rfl⟩ ?_
 rintro u ⟨c',ev',e1,-,-,-,hu⟩
 simp only [List.cons.injEq,AV.agg.injEq,AV.int.injEq,true_and,and_true] at e1
 rw [hu,← e1.2];exact q
theorem lfl_ok (hE:EM P e) (h171:Con e 171 (relO lchkR)) (h211:Inl e 211 cw211 [.tmp 4,.tmp 5]) (h270:Con e 270 (relO lgtR)):OvOk P 136 (relO lflR):=by
 refine relO_of g136.b ?_
 rintro args u ⟨c,ev,rfl,hc,hM,he,rfl⟩
 refine ⟨rfl,rfl,C.of_G hE g136 ?_⟩
 have hfin:∀ st,Frz st (.tup [.agg [.int .u32 ev,.int .u32 1,.int .i64 0,.int .i64 0,.nils],.int .i64 0]) (.tup [.agg [.int .u32 ev,.int .u32 1,.int .i64 0,.int .i64 0,.nils],.int .i64 0]):=fun st=>.plain _ rfl
 have o1:u32B ev:=by unfold u32B;omega
 have o2:u32B 1:=by unfold u32B;omega
 have o3:i64B 0:=by unfold i64B;omega
 have hL:Ls lvC [] .nils:=Ls.no (.inl rfl)
 have hck:=fun Q s q=>lch_use (e:=e) h171 hc o1 o2 o3 o3 hL (by show 0≤1000;omega) Q s (fun _=>q) (fun h=>absurd (nw_lg hM he) h)
 have htw:=fun Q s q=>lgt_use (e:=e) h270 (lg_mk o1 o2 o3 o3 hL) (by show 0≤1000;omega) Q s q
 have hcl:c.c=[.int .u32 c.id,.int .i64 c.members,.int .i64 c.chunk,.int .i64 c.rows,.int .i64 c.log,.int .i64 c.heads]:=rfl
 rw [hcl] at hck ⊢
 conv=>whnf
 repeat' (first|((first|refine ESc.inl h211 ?_|refine hck _ _ ?_|refine htw _ _ ?_|refine nq16 ?_|refine ⟨rfl,?_⟩);conv=>whnf)|refine nq6 ?_ ?_|(intro _;first|omega|conv=>whnf))
 refine W.loop0 hE ?_;conv=>whnf
 repeat' (first|refine nq1 ?_ ?_|(intro _;first|omega|conv=>whnf))
 exact hfin _
theorem EPrim.app00 {t:AT}{s:St}{k:AV->St->Prop}{x y:AO}{el es:Nat}(hx:ev x t=.some .nils) (hy:ev y t=.some .nils) (hk:k .nils s):EPrim (.app el es x y) t s k:=by
 refine EPrim.mk (v:=.nils) (s':=s) (fun e rec=>?_) hk
 show wth x t _=_;unfold wth;rw [hx]
 show wth y t _=_;unfold wth;rw [hy]
 rfl
def cw55:AC:=match a55 with|.mk c _=>c
def cw57:AC:=match a57 with|.mk c _=>c
def cw58:AC:=match a58 with|.mk c _=>c
def cw59:AC:=match a59 with|.mk c _=>c
def cw62:AC:=match a62 with|.mk c _=>c
def cw63:AC:=match a63 with|.mk c _=>c
def cw64:AC:=match a64 with|.mk c _=>c
def cw65:AC:=match a65 with|.mk c _=>c
def cw134:AC:=match a134 with|.mk c _=>c
def opO (ev lo:Int):Lo:=(ev,lo,false,0,0,false,false)
def opW (c:Cfg) (bk:Bool) (ev lo:Int):List AV:=[.int .u32 c.id,.int .i64 c.members,.int .i64 c.chunk,.int .i64 c.rows,.int .i64 c.log,.int .i64 c.heads,.bool bk,.int .u32 ev,.int .i64 lo,.bool false,.int .i64 0,.int .i64 0,.bool false,.bool false,.nils,.int .u32 ev,.int .u32 1,.int .i64 0,.int .i64 0,.nils,.nils,.int .i64 1,.bool false]
noncomputable def opAc (c:Cfg) (ev lo:Int):List AV:=[.int .i64 c.members,.int .u8 2,.int .i64 0,.fz 128 (some 128) (bys (supX c (ev+1)))]++lbsG c (opO ev lo) true c.members.toNat
noncomputable def opV (c:Cfg) (bk:Bool) (ev lo:Int):AV:=.tup [.agg (opW c bk (ev+1) lo),.fz (1+(lbsL (opO ev lo) c.members.toNat).length) none (opAc c ev lo),.int .i64 0]
def opnR (args:List AV) (u:AV):Prop:=∃ c D v ev op lo bk,args=[v,.int .i64 c.heads,.bool bk]∧Ls dkC D v∧(∀ d ∈ D,smD d)∧c.ok∧ArP c D ev op (supX c ev) lo∧(1≤ev∧ev<2147483648)∧u=opV c bk ev lo
variable {bk:Bool}
theorem opn_use (h14:Con e 14 (relO opnR)) {ev:Int}(hD:Ls dkC D v) (hsm:∀ d ∈ D,smD d) (hc:c.ok) (hA:ArP c D ev op (supX c ev) lo) (he:1≤ev∧ev<2147483648) (Q:AV->St->Prop) (s:St) (q:Q (opV c bk ev lo) s):ESc e 14 [v,.int .i64 c.heads,.bool bk] s Q:=by
 refine ESc.rel h14 ⟨_,c,D,v,ev,op,lo,bk,rfl,hD,hsm,hc,hA,he,rfl⟩ ?_
 rintro u ⟨c',D',v',ev',op',lo',bk',e1,hD',hsm',hc',hA',he',hu⟩
 simp only [List.cons.injEq,AV.int.injEq,AV.bool.injEq,true_and,and_true] at e1
 obtain ⟨rfl,e1,rfl⟩:=e1
 have:=hD'.inj hD
 subst this
 obtain ⟨⟨a1,a2,a3,a4,a5⟩,rfl,rfl,-,rfl⟩:=ar_det hA' hA hc' hc (by omega) (by omega)
 have:c'=c:=by
  obtain ⟨b1,b2,b3,b4,b5,b6⟩:=c
  obtain ⟨d1,d2,d3,d4,d5,d6⟩:=c'
  dsimp only at a1 a2 a3 a4 a5 e1
  subst a1 a2 a3 a4 a5 e1;rfl
 subst this
 rw [hu];exact q
set_option maxHeartbeats 2000000 in
theorem opn_ok (hE:EM P e) (h12:Con e 12 (relO whoR)) (h24:Con e 24 (relO allR)) (h45:Con e 45 wrF.O) (h54:Con e 54 (relO lnwR)) (h55:Inl e 55 cw55 []) (h57:Inl e 57 cw57 [.tmp 4,.tmp 5]) (h58:Inl e 58 cw58 [.cells 2 23,.tmp 3,.tmp 4]) (h59:Inl e 59 cw59 [.tmp 4,.tmp 5]) (h60:Con e 60 (relO redR)) (h62:Inl e 62 cw62 [.tmp 4,.tmp 5]) (h63:Inl e 63 cw63 [.tmp 8,.tmp 9]) (h64:Inl e 64 cw64 [.tmp 1,.tmp 2]) (h65:Inl e 65 cw65 []) (h126:Con e 126 lbgF.O) (h134:Inl e 134 cw134 [.cells 8 5,.tmp 9]) (h136:Con e 136 (relO lflR)) (h159:Con e 159 (relO on0R)):OvOk P 14 (relO opnR):=by
 refine relO_of g14.b ?_
 rintro args u ⟨c,D,v,ev,op,lo,bk,rfl,hD,hsm,hc,hA,he,rfl⟩
 have hvf:=hD.hf
 have hM:=hA.m
 have hM':=hM
 unfold Cfg.may at hM'
 have hlog:=Cfg.may_log hM
 have hb:=hA.b
 have hl0:(D.length:Int)=c.members+1:=hA.f.1
 have hm0:∃ M:Nat,c.members=M∧c.members.toNat=M∧M≤16∧3≤M:=⟨c.members.toNat,by omega,rfl,by omega,by omega⟩
 obtain ⟨M,m1,m2,m3,m4⟩:=hm0
 have hLo:loB c (opO ev lo):=nw_lo (by omega) hb
 have o1:u32B ev:=by unfold u32B;omega
 have o2:i64B lo:=by unfold i64B;omega
 have o3:i64B 0:=by unfold i64B;omega
 have hlr:loC.r (opO ev lo) [.int .u32 ev,.int .i64 lo,.bool false,.int .i64 0,.int .i64 0,.bool false,.bool false]:=lo_mk o1 o2 o3 o3
 have hwh:=fun Q s q=>who_use (e:=e) h12 hD hsm hc hA (by omega) Q s q
 obtain ⟨x,hx,hJ⟩:=ar_jr hA hsm
 obtain ⟨cs,hs',hl',hn⟩:=hD.nth
 have hMl:c.members.toNat<D.length:=by omega
 obtain ⟨x',cl,r,hx',hxr,hd⟩:=hn _ hMl
 rw [hx] at hx'
 cases hx'
 have hal:=fun Q s q=>all_use (e:=e) h24 hxr hc hM hJ (by omega) Q s q
 have hre:=fun Q s q=>red_use (e:=e) h60 hlr hc hM hLo Q s q
 have e32:(ev+1) % 4294967296=ev+1:=by omega
 have hon:=fun Q s q=>on0_use (e:=e) (n:=c.log) h159 (by omega) Q s q
 have hln:∀ (Q:AV->St->Prop) s,Q (.tup [.agg [.int .u32 (ev+1),.int .u32 1,.int .i64 0,.int .i64 0,.nils],.int .i64 0]) s->ESc e 54 [.int .u32 ((ev+1) % 4294967296),.int .u32 1,.int .i64 0] s Q:=fun Q s q=>by rw [e32];exact lnw_use h54 (by omega) Q s q
 have hfl:=fun Q s q=>lfl_use (e:=e) (ev:=ev+1) h136 hc hM (by omega) Q s q
 have hsw:=fun Q s q=>sup_wr (e:=e) (ev:=ev+1) h45 hc (by omega) Q s q
 have hlb:∀ (Q:AV->St->Prop) s,Q (.tup [.agg [.int .u32 (ev+1),.int .i64 lo,.bool false,.int .i64 0,.int .i64 0,.bool false,.bool false],.fz (lbsL (opO ev lo) M).length none (lbsG c (opO ev lo) true M),.int .i64 0]) s->ESc e 126 [.agg c.c,.agg [.int .u32 ev,.int .i64 lo,.bool false,.int .i64 0,.int .i64 0,.bool false,.bool false],.bool true] s Q:=fun Q s q=>by
  refine Fn.u (F:=lbgF) (k:=Q) (s:=s) h126 (c,opO ev lo,true,()) ⟨_,_,rfl,⟨rfl,hc⟩,_,_,rfl,hlr,_,_,rfl,rfl,rfl⟩ ⟨hM,hLo,rfl⟩ ?_
  show Q (lbsW c (opO ev lo) true) s
  unfold lbsW
  rw [if_neg (by show ¬ev=2147483648;omega),m2]
  exact q
 have hGf:=lbsG_hf c (opO ev lo) true M
 have hGl:=lbsG_len c (opO ev lo) true M
 have hLn:=lbsL_ne (opO ev lo) (m:=M) (by omega)
 have hLe:=lbsL_le (opO ev lo) M
 refine ⟨by show (AM.hf v && _)=true;rw [hvf];rfl,rfl,C.of_G hE g14 ?_⟩
 have hfin:∀ st r,st.get r=some (.row 56 ([.int .i64 c.members,.int .u8 2,.int .i64 0,.fz 128 (some 128) (bys (supX c (ev+1)))]++lbsG c (opO ev lo) true M))->Frz st (.tup [.agg [.int .u32 c.id,.int .i64 c.members,.int .i64 c.chunk,.int .i64 c.rows,.int .i64 c.log,.int .i64 c.heads,.bool bk,.int .u32 (ev+1),.int .i64 lo,.bool false,.int .i64 0,.int .i64 0,.bool false,.bool false,.nils,.int .u32 (ev+1),.int .u32 1,.int .i64 0,.int .i64 0,.nils,.nils,.int .i64 1,.bool false],.sl r 0 (1+(lbsL (opO ev lo) M).length) none,.int .i64 0]) (opV c bk ev lo):=fun st r hg=>by
  have hf:hfs ([.int .i64 c.members,.int .u8 2,.int .i64 0,.fz 128 (some 128) (bys (supX c (ev+1)))]++lbsG c (opO ev lo) true M)=true:=hfs_app rfl hGf
  unfold opV opAc
  rw [m2]
  exact .tup _ _ (.cons (.plain _ rfl) (.cons (.sl r 0 _ _ _ 56 _ _ _ hg (fun i x hx=>by rw [Nat.zero_add];exact hx) (frz_hfs hf) (.inl rfl)) (.cons (.plain _ rfl) .nil)))
 generalize opV c bk ev lo=O at hfin ⊢
 have jd:=hJ.d
 obtain ⟨bs,ws,dd⟩:=x
 obtain ⟨bv,wv,rfl,-,-⟩:=dk_of hxr
 dsimp only at jd
 subst jd
 generalize bys (supX c (ev+1))=B at *
 generalize lbsG c (opO ev lo) true M=G at *
 generalize (lbsL (opO ev lo) M).length=K at *
 obtain ⟨K,rfl⟩:∃ k,K=k+1:=⟨K-1,by omega⟩
 obtain ⟨g0,G,rfl⟩:∃ g0 G',G=g0::G':=by
  cases G with
  | nil=>simp at hGl
  | cons a l=>exact ⟨a,l,rfl⟩
 have hsrc:∀ s,srcOf 4 (.fz (K+1) none (g0::G)) s=some (g0::G):=fun s=>by
  show takeL ((K+1)*4) (g0::G)=_
  rw [takeL_of (by omega),List.take_of_length_le (by omega)]
 have hcl:c.c=[.int .u32 c.id,.int .i64 c.members,.int .i64 c.chunk,.int .i64 c.rows,.int .i64 c.log,.int .i64 c.heads]:=rfl
 rw [hcl] at hwh hal hre hfl hlb
 clear hJ hA hx hxr
 change VW P e 0 _ (initT [v,.int .i64 c.heads,.bool bk] 0 .lf) St0 none [] _
 conv=>whnf
 repeat' (first|((first|refine hwh _ _ ?_|refine EPrim.ixsM (i:=c.members.toNat) rfl hs' rfl (by omega) hMl hd ?_|refine ETake.eq (cs:=[bv,wv,.bool false]) rfl ?_|refine hal _ _ ?_|refine ESc.inl h55 ?_|refine ECall.inl h59.O h59.G ?_|refine ECall.inl h62.O h62.G ?_|refine ECall.inl h64.O h64.G ?_|refine hre _ _ ?_|refine EPrim.app00 rfl rfl ?_|refine ESc.inl h63 ?_|refine ESc.inl h134 ?_|refine EExec.loop ?_|refine hon _ _ ?_|refine hln _ _ ?_|refine hsw _ _ ?_|refine hfl _ _ ?_|refine ESc.inl h57 ?_|refine hlb _ _ ?_|refine ESc.inl h58 ?_|refine ESc.inl h65 ?_|refine nq25 (m:=1) ?_|refine EPrim.appU (m:=K+1) (n:=1) (old:=[.int .i64 c.members,.int .u8 2,.int .i64 0,.fz 128 (some 128) B]) rfl rfl (hsrc _) rfl rfl hGl (by decide) (by omega) ?_|refine nq7 ?_|refine nq10 ?_|refine nq12 ?_|refine nq14u ?_|refine nq16 ?_|refine ⟨rfl,?_⟩);conv=>whnf)|refine nq1 ?_ ?_|refine nq2 ?_ ?_|refine nq3 ?_ ?_|refine nq5 ?_ ?_|refine nq6 ?_ ?_|(intro _;first|omega|conv=>whnf))
 exact hfin _ _ rfl
def deaR (args:List AV) (u:AV):Prop:=∃ (ys:List DK) (i:Nat) (y:DK),args=[fzY ys,.int .i64 (i:Int)]∧(∀ y ∈ ys,y.ok)∧ys.length≤1000∧ys[i]?=some y∧dkP (dkO y)∧u=.tup [.fz ys.length none ((dkc ys).take (i*3)++kilA (dkO y)++(dkc ys).drop (i*3+3)),.bool true]
theorem dea_use (h37:Con e 37 (relO deaR)) {ys:List DK}{i:Nat}{y:DK}(ho:∀ y ∈ ys,y.ok) (hn:ys.length≤1000) (hy:ys[i]?=some y) (hk:dkP (dkO y)) (Q:AV->St->Prop) (s:St) (q:Q (.tup [.fz ys.length none ((dkc ys).take (i*3)++kilA (dkO y)++(dkc ys).drop (i*3+3)),.bool true]) s):ESc e 37 [fzY ys,.int .i64 (i:Int)] s Q:=by
 refine ESc.rel h37 ⟨_,ys,i,y,rfl,ho,hn,hy,hk,rfl⟩ ?_
 rintro u ⟨ys',i',y',e1,ho',hn',hy',hk',hu⟩
 simp only [List.cons.injEq,AV.int.injEq,true_and,and_true] at e1
 obtain ⟨e1,e2⟩:=e1
 obtain rfl:i=i':=by omega
 have h1:=dkc_Ls ho hn
 have h2:=dkc_Ls ho' hn'
 unfold fzY at e1
 rw [← e1] at h2
 have:=h1.inj h2
 subst this
 rw [hy] at hy'
 cases hy'
 rw [hu];exact q
theorem dea_ok (hE:EM P e) (h101:Con e 101 (relO kilR)):OvOk P 37 (relO deaR):=by
 refine relO_of g37.b ?_
 rintro args u ⟨ys,i,y,rfl,ho,hn,hy,hk,rfl⟩
 have hyo:=ho y (List.mem_of_getElem? hy)
 have hil:=(List.getElem?_eq_some_iff.1 hy).1
 have hcf:=dkc_hf ho
 have hlen:=dkc_len ys
 have hsm:=smD_of hyo
 have hki:=fun Q s q=>kil_use (e:=e) h101 (dkV_C ⟨rfl,hyo⟩) hsm hk Q s q
 have hlk:i*3+3≤(dkc ys).length:=by rw [hlen];omega
 have hld:((dkc ys).drop (i*3)).take 3=[y.bv,y.wv,.bool y.dead]:=by
  rw [dkc_drop hy];rfl
 have hsrc:∀ s,srcOf 3 (fzY ys) s=some (dkc ys):=fun s=>by
  show takeL (ys.length*3) (dkc ys)=_
  rw [takeL_of (by omega),List.take_of_length_le (by omega)]
 have hkf:hfs (kilA (dkO y))=true:=rfl
 have hRf:hfs ((dkc ys).take (i*3)++kilA (dkO y)++(dkc ys).drop (i*3+3))=true:=hfs_app (hfs_app (hfs_iff.2 fun v hv=>hfs_iff.1 hcf v (List.mem_of_mem_take hv)) hkf) (hfs_iff.2 fun v hv=>hfs_iff.1 hcf v (List.mem_of_mem_drop hv))
 refine ⟨rfl,rfl,C.of_G hE g37 ?_⟩
 have hfin:∀ st r,st.get r=some (.row 74 ((dkc ys).take (i*3)++kilA (dkO y)++(dkc ys).drop (i*3+3)))->Frz st (.tup [.sl r 0 ys.length none,.bool true]) (.tup [.fz ys.length none ((dkc ys).take (i*3)++kilA (dkO y)++(dkc ys).drop (i*3+3)),.bool true]):=fun st r hg=>.tup _ _ (.cons (.sl r 0 _ _ _ 74 _ _ _ hg (fun i x hx=>by rw [Nat.zero_add];exact hx) (frz_hfs hRf) (.inl rfl)) (.cons (.plain _ rfl) .nil))
 generalize AV.tup [.fz ys.length none ((dkc ys).take (i*3)++kilA (dkO y)++(dkc ys).drop (i*3+3)),.bool true]=O at hfin ⊢
 have hst:∀ st r,st.get r=some (.row 74 (dkc ys))->storeAt r (0+i*3) (kilA (dkO y)) st=some (st.put r (.row 74 ((dkc ys).take (i*3)++kilA (dkO y)++(dkc ys).drop (i*3+3)))):=fun st r h=>by
  rw [Nat.zero_add];exact store_of h hlk
 have hlo:∀ st r,st.get r=some (.row 74 (dkc ys))->load r (0+i*3) 3 st=some [y.bv,y.wv,.bool y.dead]:=fun st r h=>by rw [Nat.zero_add,load_of h hlk,hld]
 have hvf:AM.hf (fzY ys)=true:=rfl
 have hyc:y.c=[y.bv,y.wv,.bool y.dead]:=rfl
 rw [hyc] at hki
 have hKA:kilA (dkO y)=[.fz (dkO y).1.length none (rep [.nils] (dkO y).1.length),.nils,.bool true]:=rfl
 generalize (dkc ys).take (i*3)++kilA (dkO y)++(dkc ys).drop (i*3+3)=R at *
 rw [hKA] at hst hki
 generalize rep [AV.nils] (dkO y).1.length=RR at *
 generalize (dkO y).1.length=N at *
 obtain ⟨c0,cs,hcs⟩:∃ c0 cs,dkc ys=c0::cs:=by
  cases hq:dkc ys with
  | nil=>rw [hq] at hlk;simp at hlk
  | cons a l=>exact ⟨a,l,rfl⟩
 rw [hcs] at hsrc hst hlo hlen
 generalize fzY ys=V at *
 generalize ys.length=L at *
 change VW P e 0 _ (initT [V,.int .i64 (i:Int)] 0 .lf) St0 none [] _
 conv=>whnf
 repeat' (first|((first|refine EPrim.appNil (m:=L) rfl rfl (hsrc _) hlen (by decide) (by omega) ?_|refine EPrim.ixsP (i:=i) rfl rfl hil ?_);conv=>whnf)|fail)
 refine stuckO _ (by show load 0 (0+i*3) 3 _=_;exact hlo _ 0 rfl) ?_;conv=>whnf
 repeat' (first|((first|refine hki _ _ ?_|refine EPrim.ixsP (i:=i) rfl rfl hil ?_);conv=>whnf)|fail)
 refine stuckO _ (by show storeAt 0 (0+i*3) [.fz N none RR,.nils,.bool true] _=_;exact hst _ 0 rfl) ?_;conv=>whnf
 repeat' (first|refine nq5 ?_ ?_|(intro _;first|omega|conv=>whnf))
 exact hfin _ 0 rfl
theorem nw_dvC (hc:c.ok) (bk:Bool) {ev:Int}(he:u32B ev) (hl:i64B lo):dvC.r (nwDv c bk ev lo) (opW c bk ev lo):=by
 have o1:u32B 1:=by unfold u32B;omega
 have o3:i64B 0:=by unfold i64B;omega
 have o4:i64B 1:=by unfold i64B;omega
 exact ⟨c.c,_,rfl,⟨rfl,hc⟩,[_],_,rfl,rfl,[_,_,_,_,_,_,_],_,rfl,lo_mk he hl o3 o3,[_],_,rfl,⟨_,rfl,Ls.no (.inl rfl)⟩,[_,_,_,_,_],_,rfl,lg_mk he o1 o3 o3 (Ls.no (.inl rfl)),[_],_,rfl,⟨_,rfl,Ls.no (.inl rfl)⟩,[_],_,rfl,⟨rfl,i64_wf o4⟩,rfl⟩
theorem lbsL_all (ev:Int) (M:Nat):lbsL (opO ev (-1)) M=List.range M:=by
 unfold lbsL
 refine List.filter_eq_self.2 fun i _=>?_
 show (!decide ((-1:Int)=(i:Int)∧false=false))=true
 rw [decide_eq_false (by omega)];rfl
theorem opA_ls (hM:c.may) {ev:Int}:Ls actC (opL c (ev+1) (supX c (ev+1))) (.fz (1+(lbsL (opO ev (-1)) c.members.toNat).length) none (opAc c ev (-1)))∧(opL c (ev+1) (supX c (ev+1))).length=1+(lbsL (opO ev (-1)) c.members.toNat).length:=by
 have hM':=hM
 unfold Cfg.may at hM'
 have hS:=supX_ok c (ev+1)
 have hll:(opL c (ev+1) (supX c (ev+1))).length=1+(lbsL (opO ev (-1)) c.members.toNat).length:=by
  rw [lbsL_all]
  unfold opL
  simp;omega
 have bt:∀ {b:List Nat},(b.length=128∧∀ x ∈ b,x<256)->Ls Ce.u8 b (.fz 128 (some 128) (bys b)):=fun {b} h=>(fz128_at h).ls (by omega)
 have one:∀ (k:Int) (b:List Nat),0≤k->k≤16->(b.length=128∧∀ x ∈ b,x<256)->actC.r (k,2,0,b) [.int .i64 k,.int .u8 2,.int .i64 0,.fz 128 (some 128) (bys b)]:=fun k b h0 h1 hb=>⟨[_],_,rfl,⟨rfl,i64_wf (by unfold i64B;omega)⟩,[_],_,rfl,⟨rfl,show (2:Nat)<256 by decide⟩,[_],_,rfl,⟨rfl,i64_wf (show i64B 0 by unfold i64B;omega)⟩,_,rfl,bt hb⟩
 refine ⟨⟨[.int .i64 c.members,.int .u8 2,.int .i64 0,.fz 128 (some 128) (bys (supX c (ev+1)))]::(List.range c.members.toNat).map fun (i:Nat)=>[.int .i64 (i:Int),.int .u8 2,.int .i64 0,.fz 128 (some 128) (bys (lbX (lbF c (ev+1) (i:Int) (-1) 0 true)))],?_,.inr (.inr ⟨none,?_,?_⟩),by rw [hll,lbsL_all,List.length_range];omega⟩,hll⟩
 ·refine .cons (one _ _ (by omega) (by omega) hS) ?_
  refine All2.of_get (by simp) fun i x l h1 h2=>?_
  rw [List.getElem?_map] at h1 h2
  cases hq:(List.range c.members.toNat)[i]? with
  | none=>rw [hq] at h1;cases h1
  | some j=>
   rw [hq] at h1 h2
   cases h1
   cases h2
   have:=List.mem_range.1 (List.mem_of_getElem? hq)
   exact one _ _ (by omega) (by omega) (lbX_ok _)
 ·rw [hll]
  unfold opAc lbsG
  rw [lbsL_all,List.flatten_cons,← List.flatMap_def];rfl
 ·rw [List.flatten_cons,← List.flatMap_def,List.length_append,hll,lbsL_all,List.length_range]
  have:∀ n,((List.range n).flatMap fun (i:Nat)=>[AV.int .i64 (i:Int),.int .u8 2,.int .i64 0,.fz 128 (some 128) (bys (lbX (lbF c (ev+1) (i:Int) (-1) 0 true)))]).length=n*4:=fun n=>by
   induction n with
   | zero=>rfl
   | succ n ih=>rw [List.range_succ,List.flatMap_append,List.length_append,ih];simp;omega
  rw [this]
  show 4+c.members.toNat*4=(1+c.members.toNat)*actC.k
  show 4+c.members.toNat*4=(1+c.members.toNat)*4
  omega
structure NewP (c:Cfg) (ys xs:List DK) (w:AV) (n:Nat):Prop where
 oy:∀ y ∈ ys,y.ok
 ly:ys.length≤17
 ay:ArP c (ys.map dkO) 1 false (supX c 1) (-1)
 ox:∀ y ∈ xs,y.ok
 lx:xs.length≤17
 ax:ArP c (xs.map dkO) 2 true (supX c 2) (-1)
 ws:∃ cs,Sl 4 n cs w
 wh:AM.hf w=true
 run:∀ {e:Env},Con e 21 runF.O->∀ (Q:AV->St->Prop) s,Q (.tup [fzY xs,.int .i64 0]) s->ESc e 21 [fzY ys,w,.int .i64 (n:Int)] s Q
 opn:∀ bk,opV c bk 1 (-1)=.tup [.agg (opW c bk 2 (-1)),w,.int .i64 0]
theorem nw_facts (hc:c.ok) (hM:c.may):∃ xs w n,NewP c (fmY c (supX c 1)) xs w n:=by
 have hS1:=supX_ok c 1
 have hS2:=supX_ok c 2
 obtain ⟨hA,ho,hl⟩:=fm_ok hM hc hS1
 obtain ⟨hLs,hlen⟩:=opA_ls hM (ev:=1)
 have hr:=run_ar hA ho hS2 (n:=(opL c (1+1) (supX c 2)).length) rfl
 obtain ⟨r1,r2,r3,r4,r5⟩:=hr
 generalize hys:fmY c (supX c 1)=ys at *
 have hn:(opL c (1+1) (supX c (1+1))).length=(opL c 2 (supX c 2)).length:=rfl
 refine ⟨runI (ys.map twD) (opL c (1+1) (supX c 2)) (opL c (1+1) (supX c 2)).length,.fz (1+(lbsL (opO 1 (-1)) c.members.toNat).length) none (opAc c 1 (-1)),(opL c (1+1) (supX c 2)).length,⟨ho,hl,hA,fun y hy=>(r3 y hy).1,by omega,r5,?_,rfl,?_,fun bk=>rfl⟩⟩
 ·obtain ⟨cs,h,-,-⟩:=hLs.nth
  exact ⟨cs,h⟩
 ·intro e h21 Q s q
  have hY:=dkc_Ls ho (by omega)
  have hib:i64B ((opL c (1+1) (supX c 2)).length:Int):=by
   have h1:(opL c (1+1) (supX c 2)).length=1+(lbsL (opO 1 (-1)) c.members.toNat).length:=hlen
   have h2:=lbsL_le (opO 1 (-1)) c.members.toNat
   have hM':=hM
   unfold Cfg.may at hM'
   unfold i64B
   omega
  refine Fn.u (F:=runF) (k:=Q) (s:=s) h21 (ys,opL c (1+1) (supX c 2),((opL c (1+1) (supX c 2)).length:Int),()) ⟨_,_,rfl,⟨_,rfl,hY⟩,_,_,rfl,⟨_,rfl,hLs⟩,_,_,rfl,⟨rfl,i64_wf hib⟩,rfl⟩ trivial ?_
  have hv:runV ys (opL c (1+1) (supX c 2)) ((opL c (1+1) (supX c 2)).length:Int)=.tup [fzY (runI (ys.map twD) (opL c (1+1) (supX c 2)) (opL c (1+1) (supX c 2)).length),.int .i64 0]:=by
   unfold runV fzY
   rw [Int.toNat_natCast,List.take_length,if_pos r1,if_pos ⟨Int.natCast_nonneg _,Int.le_refl _⟩,if_pos r2,r4]
  show Q (runV ys (opL c (1+1) (supX c 2)) ((opL c (1+1) (supX c 2)).length:Int)) s
  rw [hv];exact q
variable {m:Int}
theorem nw_dead {xs:List DK}(ho:∀ y ∈ xs,y.ok) (hl:xs.length≤17) (hA:ArP c (xs.map dkO) 2 true (supX c 2) (-1)) (hm:0≤m∧m<c.members):∃ y zs,xs[m.toNat]?=some y∧dkP (dkO y)∧AV.fz xs.length none ((dkc xs).take (m.toNat*3)++kilA (dkO y)++(dkc xs).drop (m.toNat*3+3))=fzY zs∧(∀ y ∈ zs,y.ok)∧zs.length≤17∧ArP c (zs.map dkO) 2 true (supX c 2) m:=by
 have hl0:=hA.f.1
 rw [List.length_map] at hl0
 have hml:m.toNat<xs.length:=by omega
 obtain ⟨y,hy⟩:∃ y,xs[m.toNat]?=some y:=⟨_,List.getElem?_eq_getElem hml⟩
 have hyo:=ho y (List.mem_of_getElem? hy)
 obtain ⟨z,z1,z2,z3⟩:=kil_dk hyo
 have hDy:(xs.map dkO)[m.toNat]?=some (dkO y):=by rw [List.getElem?_map,hy];rfl
 refine ⟨y,xs.set m.toNat z,hy,(hA.f.2 _ (by rw [List.length_map];exact hml) _ hDy).2,?_,fun w hw=>?_,by rw [List.length_set];exact hl,?_⟩
 ·unfold fzY
  rw [← z3,dkc_set hml,List.length_set]
 ·rcases List.mem_or_eq_of_mem_set hw with h|rfl
  ·exact ho w h
  ·exact z1
 ·have:=kill_ar hA hm hDy
  rw [List.map_set,z2];exact this
theorem eq1_int (k:IntKind) (a:Int):eq1 0 (.int k a) (.int k a)=some true:=by
 show cond (eqK k k) (some (eqI a a)) none=_
 have h1:eqK k k=true:=by cases k <;> rfl
 have h2:eqI a a=true:=by rw [eqI_eq];simp
 rw [h1,h2];rfl
theorem eqf_cfg (c:Cfg):eqfA [0,0,0,0,0,0] c.c c.c=some true:=by
 unfold Cfg.c
 simp only [eqfA,eq1_int]
set_option maxHeartbeats 2000000 in
theorem new_law (hE:EM P e) (h10:Con e 10 fmtF.O) (h14:Con e 14 (relO opnR)) (h19:Con e 19 trueO) (h21:Con e 21 runF.O) (h33:Con e 33 mckF.O) (h35:Con e 35 ftcF.O) (h36:Con e 36 ftnF.O) (h37:Con e 37 (relO deaR)) (hc:c.ok) (hmB:i64B m):C P 7 [.agg c.c,.bool bk,.int .i64 m] St0 (fun u _=>u=.bool true):=by
 refine C.of_G hE g7 ?_
 have hal:=fun (Q:AV->St->Prop) s (q:Q (.bool true) s)=>@ESc.ov e 19 [] s Q trueO (.bool true) s h19 rfl q
 have hcl:c.c=[.int .u32 c.id,.int .i64 c.members,.int .i64 c.chunk,.int .i64 c.rows,.int .i64 c.log,.int .i64 c.heads]:=rfl
 by_cases hM:c.may
 ·obtain ⟨xs,w,n,hN⟩:=nw_facts hc hM
  have hM':=hM
  unfold Cfg.may at hM'
  have hmm:=may_mul hM
  have hfm:∀ (Q:AV->St->Prop) s,Q (.tup [fzY (fmY c (supX c 1)),.int .i64 0]) s->ESc e 10 [.agg c.c] s Q:=fun Q s q=>ESc.fam (e:=e) (k:=Q) (s:=s) fmtF h10 c hc (by show fmtV c=_;unfold fmtV;rw [if_pos hM]) q
  have hLy:=lsV_C (dkc_Ls hN.oy (by have:=hN.ly;omega))
  have hLx:=lsV_C (dkc_Ls hN.ox (by have:=hN.lx;omega))
  have smy:∀ d ∈ (fmY c (supX c 1)).map dkO,smD d:=fun d hd=>by
   obtain ⟨y,hy,rfl⟩:=List.mem_map.1 hd
   exact smD_of (hN.oy y hy)
  have smx:∀ d ∈ xs.map dkO,smD d:=fun d hd=>by
   obtain ⟨y,hy,rfl⟩:=List.mem_map.1 hd
   exact smD_of (hN.ox y hy)
  have hop:∀ (Q:AV->St->Prop) s,Q (.tup [.agg (opW c bk 2 (-1)),w,.int .i64 0]) s->ESc e 14 [fzY (fmY c (supX c 1)),.int .i64 c.heads,.bool bk] s Q:=fun Q s q=>opn_use (e:=e) (ev:=1) h14 hLy smy hc hN.ay (by omega) Q s (by rw [hN.opn];exact q)
  have hru:=fun Q s q=>hN.run h21 Q s q
  have hmk:∀ (Q:AV->St->Prop) s,Q (.int .i64 0) s->ESc e 33 [.agg (opW c bk 2 (-1))] s Q:=fun Q s a=>@cF.u _ _ _ _ e 33 s Q _ h33 (nwDv c bk 2 (-1),()) ⟨_,_,rfl,nw_dvC hc bk (by unfold u32B;omega) (by unfold i64B;omega),rfl⟩ (by show 0≤1000;omega) (fun _=>a) (fun q=>absurd (nw_mck hM bk (by omega) (by omega)) q)
  have hck:∀ (Q:AV->St->Prop) s,Q (.int .i64 0) s->ESc e 35 [.agg c.c,fzY xs] s Q:=fun Q s a=>@cF.u _ _ _ _ e 35 s Q _ h35 (c,xs.map dkO,()) ⟨_,_,rfl,⟨rfl,hc⟩,_,_,rfl,⟨_,rfl,hLx⟩,rfl⟩ smx (fun _=>a) (fun q=>absurd (And.intro hM hN.ax.f) q)
  have hfb:∀ i:Nat,(i:Int)<stripesN c->∀ (Q:AV->St->Prop) s,Q (.tup [fzB zeB,.int .i64 0]) s->ESc e 36 [.agg c.c,fzY xs,.int .i64 (-1),.int .i64 (i:Int),.int .i64 ((i:Int) % c.members)] s Q:=fun i hi Q s q=>by
   have hA:=hN.ax
   have h0:0≤(i:Int) % c.members:=Int.emod_nonneg _ (by omega)
   have h1:(i:Int) % c.members<c.members:=Int.emod_lt_of_pos _ (by omega)
   refine Fn.u (F:=ftnF) (k:=Q) (s:=s) h36 (c,xs.map dkO,-1,(i:Int),(i:Int) % c.members,()) ⟨_,_,rfl,⟨rfl,hc⟩,_,_,rfl,⟨_,rfl,hLx⟩,_,_,rfl,⟨rfl,i64_wf (show i64B (-1) by unfold i64B;omega)⟩,_,_,rfl,⟨rfl,i64_wf (show i64B (i:Int) by unfold i64B stripesN at *;omega)⟩,_,_,rfl,⟨rfl,i64_wf (show i64B ((i:Int) % c.members) by unfold i64B;omega)⟩,rfl⟩ ⟨⟨hM,hA.f,smx,fun j hj=>?_⟩,⟨by show (0:Int)≤i;omega,hi⟩,⟨h0,h1⟩,rfl⟩ ?_
   ·cases hq:deadC (xs.map dkO) j with
    | false=>rfl
    | true=>have:=(hA.d j).1 hq;omega
   ·show Q (.tup [fzB (seI (xs.map dkO) ((i:Int)+1) (onM c (i:Int) ((i:Int) % c.members)).toNat),.int .i64 0]) s
    obtain ⟨k,hk⟩:∃ k:Nat,(i:Int) % c.members=k:=⟨((i:Int) % c.members).toNat,by omega⟩
    obtain ⟨-,q2,q3⟩:=on_nat hM (s:=(i:Int)) (by omega) k
    rw [hk,hA.z _ (by omega) _ (by omega) (by omega)];exact q
  have hxf:AM.hf (fzY xs)=true:=rfl
  have hwf:=hN.wh
  obtain ⟨cw,hws⟩:=hN.ws
  have heq:=eqf_cfg c
  have h128:∀ st r,st.get r=some (.row 5 (rep [.int .u8 0] 128))->load r 0 128 st=some (bys zeB):=fun st r h=>load_full h rfl
  have hz:∀ b ∈ zeB,b<256:=fun b hb=>by rw [List.eq_of_mem_replicate hb];decide
  have hzS:Sl 1 128 (bys zeB) (fzB zeB):=.inr (.inr ⟨none,rfl,rfl⟩)
  have hfbf:AM.hf (fzB zeB)=true:=rfl
  have hst:stripesN c=c.chunk*c.rows:=rfl
  obtain ⟨N,hNn⟩:∃ N:Nat,c.chunk*c.rows=N:=⟨(c.chunk*c.rows).toNat,by omega⟩
  have hhead:∀ K:AV->St->Prop,(∀ st,K (.bool true) st)->True:=fun _ _=>trivial
  have hde:∀ i:Nat,m=(i:Int)->(i:Int)<c.members->∃ zs:AV,AM.hf zs=true∧(∀ (Q:AV->St->Prop) s,Q (.tup [zs,.bool true]) s->ESc e 37 [fzY xs,.int .i64 m] s Q)∧∃ w2,∀ (Q:AV->St->Prop) s,Q (.tup [.agg (opW c bk 3 m),w2,.int .i64 0]) s->ESc e 14 [zs,.int .i64 c.heads,.bool bk] s Q:=fun i hi hlt=>by
   obtain ⟨y,zs,d1,d2,d3,d4,d5,d6⟩:=nw_dead hN.ox hN.lx hN.ax (m:=(i:Int)) ⟨by omega,hlt⟩
   rw [Int.toNat_natCast] at d1 d3
   subst hi
   have hLz:=lsV_C (dkc_Ls d4 (by omega))
   have smz:∀ d ∈ zs.map dkO,smD d:=fun d hd=>by
    obtain ⟨y,hy,rfl⟩:=List.mem_map.1 hd
    exact smD_of (d4 y hy)
   exact ⟨fzY zs,rfl,fun Q s q=>dea_use h37 hN.ox (by have:=hN.lx;omega) d1 d2 Q s (by rw [d3];exact q),_,fun Q s q=>opn_use (e:=e) (ev:=2) h14 hLz smz hc d6 (by omega) Q s (by unfold opV;exact q)⟩
  clear smx smy hLx hLy hN
  generalize fzY (fmY c (supX c 1))=Y at *
  generalize fzY xs=X at *
  unfold opW at hop hmk hde
  rw [hcl] at hfm hck hfb heq ⊢
  cases bk
  ·conv=>whnf
   repeat' (first|((first|refine hal _ _ ?_|refine hfm _ _ ?_|refine hop _ _ ?_|refine nq21 hws ?_|refine hru _ _ ?_|refine EPrim.eqf2 rfl rfl heq ?_|refine EPrim.eqb0 rfl rfl ?_|refine hmk _ _ ?_|refine hck _ _ ?_|refine nq12 ?_|refine nq16 ?_);conv=>whnf)|refine nq3 ?_ ?_|refine nq6 ?_ ?_|(intro _;first|omega|conv=>whnf))
   refine W.up hE N (fun i=>[(1,.bool false),(2,.int .i64 m),(3,.ptr 0 0),(7,.bool true),(13,X),(15,.int .i64 (i:Int))]) (fun _=>[.row 24 c.c]) (fun _=>True) trivial (Abs.tells (rs:=[0]) ⟨by decide,⟨r9,r9,r9,r9,t9 hxf,r9,trivial⟩,⟨r9,trivial⟩⟩) ?_
   intro i hi _
   have hmul:-9223372036854775808≤c.chunk*c.rows∧c.chunk*c.rows≤9223372036854775807:=by omega
   rw [hcl]
   by_cases hlt:i<N
   ·have hfi:=hfb i (by omega)
    conv=>whnf
    repeat' (first|((first|refine EPrim.mulS rfl rfl hmul ?_|refine EPrim.remN rfl rfl (by omega) ?_|refine hfi _ _ ?_|refine EPrim.b2sS rfl hzS hz ?_|refine EPrim.mks (n:=128) (c:=128) rfl rfl (by decide) (by decide) ?_|refine EPrim.b2sR (bs:=zeB) rfl rfl hz ?_|refine EPrim.neqStr rfl rfl (fun h=>absurd rfl h) (fun _=>?_)|refine nq7 ?_|refine ⟨rfl,?_⟩);conv=>whnf)|refine nq1 ?_ ?_|refine nq6 ?_ ?_|(intro _;first|omega|conv=>whnf))
    exact ⟨hlt,trivial,Abs.tells (rs:=[0]) ⟨by decide,⟨r9,r9,r9,r9,t9 hxf,r9,trivial⟩,⟨r9,trivial⟩⟩⟩
   ·by_cases hmr:0≤m∧m<c.members
    ·obtain ⟨zs,hzf,hd1,w2,hd2⟩:=hde m.toNat (by omega) (by omega)
     conv=>whnf
     repeat' (first|((first|refine EPrim.mulS rfl rfl hmul ?_|refine hd1 _ _ ?_|refine hd2 _ _ ?_|refine nq13 ?_);conv=>whnf)|refine nq1 ?_ ?_|refine nq4 ?_ ?_|refine nq5 ?_ ?_|(intro _;first|omega|conv=>whnf))
     rfl
    ·conv=>whnf
     repeat' (first|(refine EPrim.mulS rfl rfl hmul ?_;conv=>whnf)|refine nq1 ?_ ?_|refine nq4 ?_ ?_|(intro _;first|omega|conv=>whnf))
     all_goals first|rfl|exact absurd (by omega) hmr
  ·conv=>whnf
   repeat' (first|((first|refine hal _ _ ?_|refine hfm _ _ ?_|refine hop _ _ ?_|refine nq21 hws ?_|refine hru _ _ ?_|refine EPrim.eqf2 rfl rfl heq ?_|refine EPrim.eqb0 rfl rfl ?_|refine hmk _ _ ?_|refine hck _ _ ?_|refine nq12 ?_|refine nq16 ?_);conv=>whnf)|refine nq3 ?_ ?_|refine nq6 ?_ ?_|(intro _;first|omega|conv=>whnf))
   refine W.up hE N (fun i=>[(1,.bool true),(2,.int .i64 m),(3,.ptr 0 0),(7,.bool true),(13,X),(15,.int .i64 (i:Int))]) (fun _=>[.row 24 c.c]) (fun _=>True) trivial (Abs.tells (rs:=[0]) ⟨by decide,⟨r9,r9,r9,r9,t9 hxf,r9,trivial⟩,⟨r9,trivial⟩⟩) ?_
   intro i hi _
   have hmul:-9223372036854775808≤c.chunk*c.rows∧c.chunk*c.rows≤9223372036854775807:=by omega
   rw [hcl]
   by_cases hlt:i<N
   ·have hfi:=hfb i (by omega)
    conv=>whnf
    repeat' (first|((first|refine EPrim.mulS rfl rfl hmul ?_|refine EPrim.remN rfl rfl (by omega) ?_|refine hfi _ _ ?_|refine EPrim.b2sS rfl hzS hz ?_|refine EPrim.mks (n:=128) (c:=128) rfl rfl (by decide) (by decide) ?_|refine EPrim.b2sR (bs:=zeB) rfl rfl hz ?_|refine EPrim.neqStr rfl rfl (fun h=>absurd rfl h) (fun _=>?_)|refine nq7 ?_|refine ⟨rfl,?_⟩);conv=>whnf)|refine nq1 ?_ ?_|refine nq6 ?_ ?_|(intro _;first|omega|conv=>whnf))
    exact ⟨hlt,trivial,Abs.tells (rs:=[0]) ⟨by decide,⟨r9,r9,r9,r9,t9 hxf,r9,trivial⟩,⟨r9,trivial⟩⟩⟩
   ·by_cases hmr:0≤m∧m<c.members
    ·obtain ⟨zs,hzf,hd1,w2,hd2⟩:=hde m.toNat (by omega) (by omega)
     conv=>whnf
     repeat' (first|((first|refine EPrim.mulS rfl rfl hmul ?_|refine hd1 _ _ ?_|refine hd2 _ _ ?_|refine nq13 ?_);conv=>whnf)|refine nq1 ?_ ?_|refine nq4 ?_ ?_|refine nq5 ?_ ?_|(intro _;first|omega|conv=>whnf))
     rfl
    ·conv=>whnf
     repeat' (first|(refine EPrim.mulS rfl rfl hmul ?_;conv=>whnf)|refine nq1 ?_ ?_|refine nq4 ?_ ?_|(intro _;first|omega|conv=>whnf))
     all_goals first|rfl|exact absurd (by omega) hmr
 ·have hfm:∀ (Q:AV->St->Prop) s,Q (.tup [.nils,.int .i64 8]) s->ESc e 10 [.agg c.c] s Q:=fun Q s q=>ESc.fam (e:=e) (k:=Q) (s:=s) fmtF h10 c hc (by show fmtV c=_;unfold fmtV;rw [if_neg hM]) q
  rw [hcl] at hfm ⊢
  conv=>whnf
  repeat' (first|((first|refine hal _ _ ?_|refine hfm _ _ ?_|refine nq16 ?_);conv=>whnf)|refine nq5 ?_ ?_|refine nq6 ?_ ?_|(intro _;first|omega|conv=>whnf))
  rfl
end Go.AM
namespace Go.AM
open Go.Proofs X
noncomputable def c0_156:Code:=match Tryz.f156.body with|some (.seq c _)=>c|_=>.skip
noncomputable def c2_156:Code:=match Tryz.f156.body with|some (.seq _ (.seq _ c))=>c|_=>.skip
noncomputable def ops_156:Array Oper:=match Tryz.f156.body with|some (.seq _ (.seq (.region _ o _) _))=>o|_=>#[]
theorem body_156:Tryz.f156.body=some (.seq c0_156 (.seq (.region 1 ops_156 true) c2_156)):=rfl
theorem reg_156:MapReg Tryz.f156.ntmps ops_156 where
 size:=by kernel_rfl
 back:=by kernel_rfl
 op:=by
  have chk:∀ (o:Oper) (pre:List Nat),(pre.all fun j=>o.after.toList.any fun e=>Region.binds .any e && e.on == j)=true->∀ j ∈ pre,∃ e ∈ o.after.toList,Region.binds .any e=true∧e.on=j:=by
   intro o pre h j hj
   have:=List.all_eq_true.1 h j hj
   obtain ⟨e,he,h⟩:=List.any_eq_true.1 this
   simp only [Bool.and_eq_true,beq_iff_eq] at h
   exact ⟨e,he,h⟩
  intro i d p pre h
  rcases i with _|_|_|_|_|_|_|_|_|i
  ·cases h;exact ⟨_,rfl,by kernel_rfl,by kernel_rfl,by kernel_rfl,chk _ _ (by kernel_rfl)⟩
  ·cases h;exact ⟨_,rfl,by kernel_rfl,by kernel_rfl,by kernel_rfl,chk _ _ (by kernel_rfl)⟩
  ·cases h;exact ⟨_,rfl,by kernel_rfl,by kernel_rfl,by kernel_rfl,chk _ _ (by kernel_rfl)⟩
  ·cases h;exact ⟨_,rfl,by kernel_rfl,by kernel_rfl,by kernel_rfl,chk _ _ (by kernel_rfl)⟩
  ·cases h;exact ⟨_,rfl,by kernel_rfl,by kernel_rfl,by kernel_rfl,chk _ _ (by kernel_rfl)⟩
  ·cases h;exact ⟨_,rfl,by kernel_rfl,by kernel_rfl,by kernel_rfl,chk _ _ (by kernel_rfl)⟩
  ·cases h;exact ⟨_,rfl,by kernel_rfl,by kernel_rfl,by kernel_rfl,chk _ _ (by kernel_rfl)⟩
  ·cases h;exact ⟨_,rfl,by kernel_rfl,by kernel_rfl,by kernel_rfl,chk _ _ (by kernel_rfl)⟩
  ·cases h;exact ⟨_,rfl,by kernel_rfl,by kernel_rfl,by kernel_rfl,chk _ _ (by kernel_rfl)⟩
  ·cases h
variable {e:Env}
theorem sur_ok (hE:EM P e) (h165:Con e 165 takeO) (h45:Con e 45 wrF.O):OvOk P 156 readO:=readO_ok hE h165 h45 Tryz.func156 body_156 (by kernel_rfl) (by kernel_rfl) reg_156 (by kernel_rfl) ⟨Tryz.f156,_,Tryz.func156,body_156,by kernel_rfl⟩
theorem nrd_ok {n k:Nat}(hE:EM P e) (h:memoB e n k 85 [fzB zeB] (.tup [.agg [.int .u32 0,.int .u32 0,.int .u32 0,.int .i64 0,.nils],.int .i64 90])=true):OvOk P 85 (relO nrdR):=by
 refine relO_of g85.b ?_
 rintro args u ⟨rfl,rfl⟩
 exact ⟨rfl,rfl,(memo_C hE.1 hE.2 rfl rfl h St0).mono (by rintro v s ⟨rfl,-⟩;exact .plain _ rfl)⟩
end Go.AM
