/- Contracts of functions over the abstract machine. No conditions. -/
import Derived.Test.YtacmbogmbfmjeaaGreatStE
import Derived.Test.YtacmbogmbfmjeaaGreatStA
import Derived.Test.YtacmbogmbfmjeaaGreatAM5
import Derived.Test.YtacmbogmbfmjeaaGreatStD
set_option linter.unusedVariables false
set_option linter.unusedSimpArgs false
set_option maxRecDepth 100000
namespace Go.AM
attribute [local irreducible] W
open X
def zLv:Lv:=⟨0,0,0,false,false,false⟩
def DH (L:List Lv) (s:Int):Lv:=if 0≤AK L s L.length then (L[(AK L s L.length).toNat]?).getD zLv else zLv
def GP (L:List Lv) (s:Int):Bool:=decide (0≤AK L s L.length)
def mlsF:Fn (Dv×Int×Unit):=⟨.g dvC (.v i64C .nil),fun _=>True,fun x=>.tup [.agg (DH x.1.2.2.2.2.1.2.2.2.2 x.2.1).c,.bool (GP x.1.2.2.2.2.1.2.2.2.2 x.2.1)]⟩
def XX:AC:=match a58 with|.mk c _=>c
def YF:AC:=match F8 XX with|some (a,_)=>a|none=>.skip
def Yb:AC:=match F8 XX with|some (_,b)=>b|none=>.skip
noncomputable def Tl:AT:=A6 [(3,.ptr 0 0),(4,.ptr 1 0),(5,.ptr 2 0),(11,.fn 155 [] [.ptr 3 0])]
variable {e:Env}
theorem Zij (hE:EM P e) (h111:Inl e 111 RX [.tmp 2]):OvOk P 58 mlsF.O:=by
 refine B3 g58.b ?_
 rintro ⟨⟨c,bk,⟨ev,lo,sp,po,dn,nl,br⟩,hs,⟨ag,sq,tl,us,L⟩,fs,nx,so⟩,s,_⟩ _ ⟨_,_,rfl,hd,_,_,rfl,⟨e1,z1⟩,rfl⟩ -
 cases e1
 obtain ⟨hv,lv,fv,rfl,⟨ho,o1,o2,o3,o4,o5,o6,o7,o8,oN⟩,hH,hL,hF⟩:=B1 hd
 obtain ⟨ls,hs2,hl2,hn2⟩:=hL.lv
 have hvf:=hL.hf
 have hcl:=hL.cell
 refine ⟨rfl,C.of_G hE g58 ?_⟩
 have fin:∀ st x b,DH L s=x->GP L s=b->Frz st (.tup [.agg x.c,.bool b]) (mlsF.out ((c,bk,(ev,lo,sp,po,dn,nl,br),hs,(ag,sq,tl,us,L),fs,nx,so),s,())):=by
  rintro st x b rfl rfl;exact .plain _ rfl
 generalize mlsF.out _=O at fin ⊢
 unfold DH GP at fin
 change VW P e 0 _ (An [_,.int .i64 s] 0 .lf) St0 none [] _
 conv=>whnf
 repeat' (first|(refine DA (by show Nat.beq (A7 (cellsOf lv)) 1=true;rw [hcl];rfl) ?_;rw [hcl];conv=>whnf)|(refine ESc.inl h111 ?_;conv=>whnf)|fail)
 refine W.abs [(3,.ptr 0 0),(4,.ptr 1 0),(5,.ptr 2 0),(11,.fn 155 [] [.ptr 3 0])] [.row 3 [.int .i64 s],.row 128 zLv.c,.row 4 [.bool false],.row 28 [lv]] [1,2,3,4] ⟨by decide,⟨r9,r9,r9,r9,trivial⟩,⟨r9,r9,r9,⟨?_,?_⟩,trivial⟩⟩ ?_
 ·show (bd _ lv && true)=true;rw [Dp _ hvf];rfl
 ·show _=some (AObj.row 28 [Bg _ lv]);rw [CZ _ hvf];rfl
 refine Pl (f:=155) (first:=[]) (cap:=[.ptr 3 0]) g155.b rfl ?_ ?_
 ·intro q hq
  have hq:q<4:=hq
  rcases q with _|_|_|_|q
  ·exact .tmp 3 (.ptr 0 0) rfl rfl
  ·exact .tmp 4 (.ptr 1 0) rfl rfl
  ·exact .tmp 5 (.ptr 2 0) rfl rfl
  ·exact .tmp 11 (.fn 155 [] [.ptr 3 0]) rfl rfl
  ·omega
 show C1 P 155 [.yld 5,.ptr 3 0] (Aj St0 [.row 3 [.int .i64 s],.row 128 zLv.c,.row 4 [.bool false],.row 28 [lv],.defd,.loop .ready none 0 Tl [12,13] YF Yb 4]) (fun _ s'=>KX 5 [4] Tl s' _)
 refine C1.of_G hE g155 ?_;conv=>whnf
 refine Am hs2 ?_;conv=>whnf
 repeat' (first|(refine AL ?_;conv=>whnf)|fail)
 refine X9 (α:=Nat) (fun j=>[(0,.yld 5),(1,.ptr 3 0),(3,.int .i64 ((j:Int)-1))]) (fun _=>[.row 3 [.int .i64 s],.row 128 zLv.c,.row 4 [.bool false],.row 28 [lv],.defd,.loop .ready none 0 Tl [12,13] YF Yb 4]) (fun j=>j)
  (fun j=>j≤L.length∧AK L s L.length=AK L s j) L.length [0,1,2,3,4,5] ⟨Zp4 _,rfl⟩ ?_ ?_
 ·refine ⟨rfl,by decide,⟨r9,r9,r9,trivial⟩,⟨r9,r9,r9,⟨?_,?_⟩,r9,r9,trivial⟩⟩
  ·show (bd _ lv && true)=true;rw [Dp _ hvf];rfl
  ·show _=some (AObj.row 28 [Bg _ lv]);rw [CZ _ hvf];rfl
 rintro j ⟨hj,hh⟩
 refine Ca hE ?_;conv=>whnf
 refine DV rfl rfl (fun h=>?_) (fun h=>?_) <;> conv=>whnf
 ·obtain ⟨i,rfl⟩:∃ i,j=i+1:=⟨j-1,by omega⟩
  have hlt:i<L.length:=by omega
  obtain ⟨sq',st',bl',pa,su,ho',r,hx,hx',hd2⟩:=hn2 i hlt
  rw [show ((i+1:Nat):Int)-1=(i:Int) by omega]
  replace hh:AK L s L.length=if L[i]?.map Lv.stripe=some s then (i:Int) else AK L s i:=hh
  rw [hx] at hh
  replace hh:AK L s L.length=if st'=s then (i:Int) else AK L s i:=by
   rw [hh]
   show (if some st'=some s then (i:Int) else _)=_
   simp only [Option.some.injEq]
  refine Ar hs2 hlt hd2 ?_;conv=>whnf
  refine A8 (cs:=[.int .u32 sq',.int .i64 st',.int .i64 bl',.bool pa,.bool su,.bool ho']) rfl ?_;conv=>whnf
  refine ERound.mk ?_
  by_cases hse:st'=s
  ·subst hse
   rw [Zpn rfl] at hh
   rw [hh,Zpn (by omega),Int.toNat_natCast,hx,Zpo (by omega)] at fin
   conv=>whnf
   repeat' (first|(refine Av ?_;conv=>whnf)|refine Ap ?_ ?_|(intro _;first|omega|conv=>whnf))
   exact fin _ _ _ rfl rfl
  ·rw [Zpr hse] at hh
   conv=>whnf
   repeat' (first|((first|refine AL ?_|refine Au ?_|refine ⟨rfl,?_⟩);conv=>whnf)|refine Ap ?_ ?_|(intro _;first|omega|conv=>whnf))
   refine ⟨i,⟨by omega,hh⟩,by omega,[0,1,2,3,4,5],rfl,by decide,⟨r9,r9,r9,trivial⟩,⟨r9,r9,r9,⟨?_,?_⟩,r9,r9,trivial⟩⟩
   ·show (bd _ lv && true)=true;rw [Dp _ hvf];rfl
   ·show _=some (AObj.row 28 [Bg _ lv]);rw [CZ _ hvf];rfl
 ·have:j=0:=by omega
  subst this
  rw [hh] at fin
  conv=>whnf
  exact fin _ _ _ rfl rfl
def Tu (c:Cfg) (w k:Int):Int:=(c.members-1-w % c.members+1+k) % c.members
def EP (c:Cfg) (b:Int):Int:=Tu c (b / c.chunk / (c.members-1)) (BY c b)
noncomputable def sptF:Fn (Cfg×Int×Unit):=⟨.g cfgC (.v i64C .nil),fun x=>x.1.may∧0≤x.2.1∧x.2.1<BJ x.1,fun x=>.tup [.agg [.int .i64 (B7 x.1 x.2.1),.int .i64 (BY x.1 x.2.1),.int .i64 (EP x.1 x.2.1)],.int .i64 0]⟩
def cd90:AC:=match NB with|.mk c _=>c
theorem Zhp (hE:EM P e) (h41:Con e 41 blsF.O) (h89:Inl e 89 T8 [.tmp 4,.tmp 5]) (h90:Inl e 90 cd90 [.tmp 4]) (h99:Inl e 99 T7 [.tmp 2]):OvOk P 42 sptF.O:=by
 refine B3 g42.b ?_
 rintro ⟨c,b,_⟩ _ ⟨_,_,rfl,⟨rfl,hc⟩,_,_,rfl,⟨e1,z1⟩,rfl⟩ ⟨hM,hb⟩
 cases e1
 refine ⟨rfl,C.of_G hE g42 ?_⟩
 dsimp only at hM hb hc
 have hbl:∀ (Q:AV->St->Prop) s,Q (.tup [.int .i64 (BJ c),.int .i64 0]) s->ESc e 41 [.agg c.c] s Q:=fun Q s k=>Fn.u (F:=blsF) h41 (c,()) ⟨_,_,rfl,⟨rfl,hc⟩,rfl⟩ hM k
 have hmm:=BC hM
 have hpl:=MM hM hb
 have fin:∀ st x y z,x=B7 c b->y=BY c b->z=EP c b->Frz st (.tup [.agg [.int .i64 x,.int .i64 y,.int .i64 z],.int .i64 0]) (sptF.out (c,b,())):=by
  rintro st x y z rfl rfl rfl;exact .plain _ rfl
 generalize sptF.out _=O at fin ⊢
 unfold EP Tu at fin
 unfold B7 BY at fin hpl
 have hM':=hM
 unfold Cfg.may at hM'
 have hd0:=Int.ediv_nonneg hb.1 (show 0≤c.chunk by omega)
 have hd1:b / c.chunk≤b:=Int.ediv_le_self _ hb.1
 have hr0:=Zq3 b (show c.chunk≠0 by omega)
 have hr1:=Zq5 b (show 0<c.chunk by omega)
 have he0:=Int.ediv_nonneg hd0 (show 0≤c.members-1 by omega)
 have he1:b / c.chunk / (c.members-1)≤b / c.chunk:=Int.ediv_le_self _ hd0
 have hs0:=Zq3 (b / c.chunk) (show c.members-1≠0 by omega)
 have hs1:=Zq5 (b / c.chunk) (show 0<c.members-1 by omega)
 have hw0:=Zq3 (b / c.chunk / (c.members-1)) (show c.members≠0 by omega)
 have hw1:=Zq5 (b / c.chunk / (c.members-1)) (show 0<c.members by omega)
 have hpm:=DW (a:=b / c.chunk / (c.members-1)) (b:=c.chunk) (by omega) (by omega)
 generalize BJ c=B at *
 have hsum:-9223372036854775808≤b / c.chunk / (c.members-1)*c.chunk+b % c.chunk∧b / c.chunk / (c.members-1)*c.chunk+b % c.chunk≤9223372036854775807:=by
  have h1:b / c.chunk / (c.members-1)*c.chunk≤1000*8:=Int.mul_le_mul (by omega) (by omega) (by omega) (by decide)
  have h2:0≤b / c.chunk / (c.members-1)*c.chunk:=Int.mul_nonneg he0 (by omega)
  omega
 change VW P e 0 _ (An [.agg c.c,.int .i64 b] 0 .lf) St0 none [] _
 conv=>whnf
 repeat' (first|((first|refine hbl _ _ ?_|refine ESc.inl h89 ?_|refine ESc.inl h90 ?_|refine ESc.inl h99 ?_|refine Ij rfl rfl (by omega) ?_|refine Kp rfl rfl (by omega) ?_|refine Cs rfl rfl hpm ?_|refine Ac ?_|refine AL ?_|refine ⟨rfl,?_⟩);conv=>whnf)|refine Aa ?_ ?_|refine AR ?_ ?_|refine Al ?_ ?_|(intro _;first|omega|conv=>whnf))
 exact fin _ _ _ _ rfl rfl rfl
def spC:Ce (Int×Int×Int):=i64C.pr (i64C.pr i64C)
def Zpb:AC:=match Q2 with|.mk c _=>c
def Ta (s:(Int×Int×Int)×Unit) (xs:List Hd):Prop:=∀ h ∈ xs,0≤s.1.2.1∧s.1.2.1<h.2.2.1.length
def PE (s:(Int×Int×Int)×Unit) (h:Hd):Prop:=h.1=s.1.1∧h.2.2.2.1≤1∧h.2.2.1[s.1.2.1.toNat]?=some true
noncomputable def ix109:Fn (List Hd×((Int×Int×Int)×Unit)×Unit):=CF hdC 109 (.p spC .nil) Ta PE
theorem Zk6 (h109:Inl e 109 Zpb [.tmp 3]):Fj e hdC AV.agg 109 (.p spC .nil) Ta PE:=by
 rintro ⟨⟨s,k,m⟩,_⟩ q xs ⟨st,bl,di,ph,de,sq⟩ l ⟨_,_,rfl,⟨_,_,rfl,⟨rfl,-⟩,_,_,rfl,⟨rfl,-⟩,rfl,-⟩,rfl⟩ hok hmem hx Q t f
 have hk:=hok _ hmem
 obtain ⟨bv,dv,rfl,h1,h2,h3,h4,-⟩:=Cm hx
 obtain ⟨ds,hs',hl',hn'⟩:=h3.nth
 dsimp only at hk
 obtain ⟨g,_,l',hg,rfl,hd'⟩:=hn' k.toNat (by omega)
 unfold PE at t f
 dsimp only at t f
 rw [hg] at t f
 refine ECall.inl h109.O h109.G ?_
 change VE e _ (An [.agg [.int .i64 st,bv,dv,.int .u8 (ph:Int),.bool de,.int .u32 sq],.fp [.int .i64 s,.int .i64 k,.int .i64 m]] 0 .lf) _ none [] _
 cases g
 all_goals
  conv=>whnf
  repeat' (first|((first|refine As ?_|refine Cj rfl hs' rfl (show k=(k.toNat:Nat) by omega) (by omega) hd' ?_);conv=>whnf)|refine B8 ?_ ?_|refine Ap ?_ ?_|(intro _;first|omega|conv=>whnf))
  all_goals first
   | exact t ⟨by omega,by omega,rfl⟩ _
   | exact f (fun q=>by have:=q.1;omega) _
   | exact f (fun q=>by have:=q.2.1;omega) _
   | exact f (fun q=>nomatch q.2.2) _
variable {c:Cfg}{hs:List Hd}
theorem Xl {b:Int}(hsh:Cg c hs):E0 c hs b↔∃ h ∈ hs,h.1=B7 c b∧h.2.2.2.1≤1∧h.2.2.1[(BY c b).toNat]?=some true:=by
 unfold E0
 constructor
 ·rintro ⟨h0,h1⟩
  rw [← S7] at h0 h1
  have hlt:=Zi0 (fun h:Hd=>h.1=B7 c b) hs
  obtain ⟨x,hx⟩:∃ x,hs[(CA (fun h:Hd=>h.1=B7 c b) hs).toNat]?=some x:=⟨_,Zpj (by omega)⟩
  refine ⟨x,Zp5 hx,?_,h1 x hx⟩
  classical
  unfold CA at hx h0
  split at hx
  ·rename_i i hi
   have:=List.findIdx?_eq_some_iff_getElem.1 hi
   obtain ⟨h2,h3,-⟩:=this
   rw [Int.toNat_natCast,Zpj h2] at hx
   cases hx
   simpa using h3
  ·rename_i hi
   rw [hi] at h0
   exact absurd h0 (by decide)
 ·rintro ⟨x,hx,h1,h2⟩
  obtain ⟨i,hi⟩:=Zra hx
  have hil:=(Zpk.1 hi).1
  have hp:A9 hs (B7 c b)=i:=Ri hi h1 fun j hj g hg e=>(hsh.1 i hil x hi).2 j hj g hg (by rw [e,h1])
  rw [hp]
  refine ⟨by omega,fun h hh=>?_⟩
  rw [Int.toNat_natCast,hi] at hh
  cases hh
  exact h2
noncomputable def mhlF:Fn (Dv×Unit):=bF (.g dvC .nil) (fun x=>x.1.1.may∧Cg x.1.1 x.1.2.2.2.1∧EX x.1.1 x.1.2.2.2.2.2.1) fun x=>Lh x.1.1 x.1.2.2.2.1 x.1.2.2.2.2.2.1
set_option maxHeartbeats 2000000 in
theorem Zil (hE:EM P e) (h42:Con e 42 sptF.O) (h55:Inl e 55 T5 [.tmp 4]) (h110:Con e 110 (relS (CC ix109.R))):OvOk P 53 mhlF.O:=by
 refine Bv hE g53 ?_
 rintro ⟨⟨c,bk,⟨ev,lo,sp,po,dn,nl,br⟩,hs,⟨ag,sq,tl,us,L⟩,fs,nx,so⟩,_⟩ _ ⟨_,_,rfl,hd,rfl⟩ ⟨hM,hSh,hFs⟩ K t f
 obtain ⟨hv,lv,fv,rfl,ho,hH,hL,hF⟩:=B1 hd
 have hrow:=dvC.hf hd
 obtain ⟨ks,hs2,hl2,hn2⟩:=hF.nth
 have hfv:=hF.hf
 dsimp only at t f hM hSh hFs
 have hsp:∀ b,0≤b∧b<BJ c->∀ (Q:AV->St->Prop) s',Q (.tup [.agg [.int .i64 (B7 c b),.int .i64 (BY c b),.int .i64 (EP c b)],.int .i64 0]) s'->ESc e 42 [.agg c.c,.int .i64 b] s' Q:=fun b hb Q s' k=>Fn.u (F:=sptF) h42 (c,b,()) ⟨_,_,rfl,⟨rfl,ho.1⟩,_,_,rfl,⟨rfl,Bf (show Ab b by have:=BC hM;unfold Ab;omega)⟩,rfl⟩ ⟨hM,hb.1,hb.2⟩ k
 have hsn:∀ b,0≤b∧b<BJ c->Ab (EP c b):=fun b hb=>by
  unfold Cfg.may at hM
  unfold EP Tu
  have h1:=Zq3 (c.members-1-b / c.chunk / (c.members-1) % c.members+1+BY c b) (show c.members≠0 by omega)
  have h2:=Zq5 (c.members-1-b / c.chunk / (c.members-1) % c.members+1+BY c b) (show 0<c.members by omega)
  unfold Ab;omega
 have hcn:∀ b,0≤b∧b<BJ c->∀ r (Q:AV->St->Prop) s',s'.get r=some (.row 105 [.int .i64 (B7 c b),.int .i64 (BY c b),.int .i64 (EP c b)])->(E0 c hs b->Q (.bool true) s')->(¬E0 c hs b->Q (.bool false) s')->ESc e 55 [hv,.fn 109 [] [.ptr r 0]] s' Q:=fun b hb r Q s' hr y n=>by
  have hpl:=MM hM hb
  have hmm:=BC hM
  have hM':=hM
  unfold Cfg.may at hM'
  have w1:=Bf (show Ab (B7 c b) by unfold Ab;omega)
  have w2:=Bf (show Ab (BY c b) by unfold Ab;omega)
  have hok:Ta ((B7 c b,BY c b,EP c b),()) hs:=fun h hh=>by
   obtain ⟨i,hi⟩:=Zra hh
   have:=(hSh.1 i (Zpk.1 hi).1 h hi).1
   obtain ⟨st,bl,di,ph,de,sq⟩:=h
   unfold DT at this
   have:=this.2.2.1
   dsimp only
   omega
  refine Y9 h55 (p:=PE ((B7 c b,BY c b,EP c b),())) (xs:=hs) (fun Q k=>@I5 _ ix109 e 110 s' Q h110 hv 109 [.ptr r 0] [.fp [.int .i64 (B7 c b),.int .i64 (BY c b),.int .i64 (EP c b)]] (hs,((B7 c b,BY c b,EP c b),()),()) ⟨_,_,rfl,⟨_,rfl,hH⟩,_,_,rfl,⟨_,_,rfl,⟨[_],_,rfl,⟨rfl,w1⟩,[_],_,rfl,⟨rfl,w2⟩,rfl,Bf (hsn b hb)⟩,rfl⟩,rfl⟩ hok (.cons ⟨r,105,_,rfl,rfl,hr,rfl⟩ .nil) rfl k) (fun q=>y ((Xl hSh).2 q)) fun q=>n fun h=>q ((Xl hSh).1 h)
 conv=>whnf
 repeat' (first|(refine Am hs2 ?_;conv=>whnf)|fail)
 refine Aw hE fs.length (fun i=>[(1,.ptr 0 0),(11,fv),(12,.int .i64 (fs.length:Int)),(13,.int .i64 (i:Int))]) (fun _=>[.row 33 (c.c++[.bool bk,.int .u32 ev,.int .i64 lo,.bool sp,.int .i64 po,.int .i64 dn,.bool nl,.bool br,hv,.int .u32 ag,.int .u32 sq,.int .i64 tl,.int .i64 us,lv,fv,.int .i64 nx,.bool so])]) (fun i=>∀ j<i,∀ f,fs[j]?=some f->S8 c hs f) (fun k h=>by omega) (Abs.tells (rs:=[0]) .a) ?_
 intro i hi hI
 by_cases hlt:i<fs.length
 ·obtain ⟨⟨n,⟨k,a,m,d⟩,st,sqs,da⟩,_,r,hx,hxr,hd'⟩:=hn2 i hlt
  have hfr:=ftC.hf hxr
  obtain ⟨ev',tv,qv,av,rfl,p1,p2,p3,p4,g1,g2,g3,g4⟩:=Dq hxr
  obtain ⟨ts,hs3,hl3,hn3⟩:=g2.nth
  have htv:=g2.hf
  have hef:=(hFs.2 i hlt _ hx).1
  conv=>whnf
  repeat' (first|((first|refine Ar hs2 hlt hd' ?_|refine A8 (cs:=[.int .i64 n,.int .u8 (k:Int),.int .i64 a,.int .i64 m,ev',tv,qv,av]) rfl ?_|refine Am hs3 ?_);conv=>whnf)|refine Aa ?_ ?_|(intro _;first|omega|conv=>whnf))
  refine Aw hE st.length (fun k'=>[(1,.ptr 0 0),(4,.ptr 1 0),(11,fv),(12,.int .i64 (fs.length:Int)),(13,.int .i64 (i:Int)),(18,tv),(19,.int .i64 (st.length:Int)),(20,.int .i64 (k':Int))]) (fun _=>[.row 33 (c.c++[.bool bk,.int .u32 ev,.int .i64 lo,.bool sp,.int .i64 po,.int .i64 dn,.bool nl,.bool br,hv,.int .u32 ag,.int .u32 sq,.int .i64 tl,.int .i64 us,lv,fv,.int .i64 nx,.bool so]),.row 143 [.int .i64 n,.int .u8 (k:Int),.int .i64 a,.int .i64 m,ev',tv,qv,av]]) (fun k'=>∀ j<k',st[j]?=some 1->E0 c hs (a+(j:Int))) (fun k h=>by omega) (Abs.tells (rs:=[0,1]) .a) ?_
  intro k' hk' hK
  by_cases hkt:k'<st.length
  ·obtain ⟨s1,_,r3,hx3,⟨rfl,hb3⟩,hd3⟩:=hn3 k' hkt
   have hb:=Xt hef hkt
   have hbm:=(BC hM).2
   have hsp:=hsp _ hb
   have hcn:=hcn _ hb
   have hN:s1=1->¬E0 c hs (a+k')->∀ s,K (.bool false) s:=fun e h=>f fun q=>h (q i hlt _ hx k' hkt (by subst e;exact hx3))
   have hY:(s1=1->E0 c hs (a+k'))->∀ j<k'+1,st[j]?=some 1->E0 c hs (a+(j:Int)):=fun h=>AZ hK fun e=>by rw [hx3] at e;cases e;exact h rfl
   clear t f hI hK hn2 hn3
   generalize B7 c (a+k')=z1 at *
   generalize BY c (a+k')=z2 at *
   generalize EP c (a+k')=z3 at *
   conv=>whnf
   repeat' (first|(refine hcn _ _ _ rfl (fun q=>?_) (fun q=>?_) <;> conv=>whnf)|((first|refine Ar hs3 hkt hd3 ?_|refine As ?_|refine hsp _ _ ?_|refine Ac ?_|refine Au ?_|refine Av ?_|refine ⟨rfl,?_⟩);conv=>whnf)|refine Aa ?_ ?_|refine Ap ?_ ?_|(intro _;first|omega|conv=>whnf))
   all_goals first
    | exact hN (by omega) q _
    | exact ⟨hkt,hY (fun _=>q),Abs.tells (rs:=[0,1]) .a⟩
    | exact ⟨hkt,hY (fun e=>by omega),Abs.tells (rs:=[0,1]) .a⟩
  ·conv=>whnf
   repeat' (first|((first|refine Ac ?_|refine ⟨rfl,?_⟩);conv=>whnf)|refine Aa ?_ ?_|(intro _;first|omega|conv=>whnf))
   exact ⟨hlt,AZ hI fun f e=>by rw [hx] at e;cases e;exact fun j hj=>hK j (by have:j<st.length:=hj;omega),Abs.tells (rs:=[0]) .a⟩
 ·conv=>whnf
  repeat' (first|refine Aa ?_ ?_|(intro _;first|omega|conv=>whnf))
  exact t (fun j hj=>hI j (by omega)) _
structure CLX where
 c:Cfg
 ag:Int
 sq:Int
 tl:Int
 us:Int
 v:AV
 n:Nat
 cs:List AV
structure CLX.ok (x:CLX):Prop where
 c:x.c.ok
 v:Sl 6 x.n x.cs x.v
 n:1000<x.n
def CLX.args (x:CLX):List AV:=[x.c.v,.agg [.int .u32 x.ag,.int .u32 x.sq,.int .i64 x.tl,.int .i64 x.us,x.v]]
def lchkX:Fam CLX:=⟨CLX.ok,CLX.args,fun _=>.int .i64 8,fun _ _ _ _ _=>rfl⟩
theorem Zfp (hE:EM P e) (h78:Con e 103 cfgF.O) (h79:Inl e 149 XW [.tmp 2]) (h38:Con e 40 stripesF.O) (h53:Con e 185 needF.O) (h122:Inl e 186 OJ [.tmp 2]):OvOk P 105 lchkX.O:=by
 refine C7 g105.b ?_
 intro x hx
 have hvf:=hx.v.hf
 refine ⟨by show (true && ((true && (true && (true && (true && (AM.hf x.v && true))))) && true))=true;rw [hvf];rfl,rfl,C.of_G hE g105 ?_⟩
 have hout:lchkX.out x=.int .i64 8:=rfl
 rw [hout]
 by_cases hM:x.c.may
 ·have hlog:=Hb hM
  have hM':=hM
  unfold Cfg.may at hM'
  have hcfg:∀ (K:AV->St->Prop) (s:St),K (.int .i64 0) s->ESc e 103 [x.c.v] s K:=fun K s hk=>ESc.fam cfgF h78 x.c hx.c (by simp [cfgF,hM]) hk
  have hst:∀ (K:AV->St->Prop) (s:St),K (.tup [.int .i64 (x.c.chunk*x.c.rows),.int .i64 0]) s->ESc e 40 [x.c.v] s K:=fun K s hk=>ESc.fam stripesF h38 x.c hx.c (by simp [stripesF,hM]) hk
  have hnd:∀ (K:AV->St->Prop) (s:St),K (.tup [.int .i64 (x.c.members+1),.int .i64 0]) s->ESc e 185 [x.c.v] s K:=fun K s hk=>ESc.fam needF h53 x.c hx.c (by simp [needF,hM]) hk
  obtain ⟨⟨c1,c2,c3,c4,c5,c6⟩,ag,sq,tl,us,v,n,cs⟩:=x
  obtain ⟨hx1,hv,hn⟩:=hx
  dsimp only at hlog hM' hv hn
  conv=>whnf
  refine hcfg _ _ ?_;conv=>whnf
  repeat' (first|refine Al ?_ ?_|(intro _;first|omega|conv=>whnf))
  refine ESc.inl h79 ?_;conv=>whnf
  refine hst _ _ ?_;conv=>whnf
  refine hnd _ _ ?_;conv=>whnf
  refine ESc.inl h122 (NQ e _ ag _ ?_)
  cases hA:Gp ag <;> conv=>whnf
  ·repeat' (first|(refine Av ?_;conv=>whnf)|fail)
   exact .plain _ rfl
  repeat' (first|(refine Au ?_;conv=>whnf)|fail)
  refine ESc.inl h122 (NQ e _ sq _ ?_)
  cases hS:Gp sq <;> conv=>whnf
  ·repeat' (first|(refine Av ?_;conv=>whnf)|fail)
   exact .plain _ rfl
  repeat' (first|((first|refine Am hv ?_|refine Au ?_|refine Av ?_);conv=>whnf)|refine Aa ?_ ?_|refine Ax ?_ ?_|refine AR ?_ ?_|(intro _;first|omega|conv=>whnf))
  all_goals first|exact .plain _ rfl|(exfalso;dsimp only at *;omega)
 ·conv=>whnf
  refine ESc.fam cfgF h78 x.c hx.c (u:=.int .i64 8) (by simp [cfgF,hM]) ?_;conv=>whnf
  repeat' (first|refine Al ?_ ?_|(intro _;first|omega|conv=>whnf))
  exact .plain _ rfl
def MU (args:List AV) (u:AV):Prop:=(∃ x:CL,lchkF.ok x∧args=lchkF.enc x∧u=lchkF.out x)∨(∃ x:CLX,lchkX.ok x∧args=lchkX.enc x∧u=lchkX.out x)
theorem Zfq (h1:OvOk P 105 lchkF.O) (h2:OvOk P 105 lchkX.O):OvOk P 105 (Ao MU):=by
 have key:∀ {α:Type}(F:Fam α) (x:α),F.ok x->∀ s,F.O (F.enc x) s=.ok (F.out x) s:=fun F x hx s=>by
  have h:∃ u,∃ y,F.ok y∧F.enc x=F.enc y∧u=F.out y:=⟨_,x,hx,rfl,rfl⟩
  unfold Fam.O Ao
  rw [dif_pos h]
  obtain ⟨y,hy,e1,e2⟩:=Zqy h
  rw [e2,← F.inj x y hx hy e1]
 refine WU h1.1 fun args u hR s=>?_
 rcases hR with ⟨x,hx,rfl,rfl⟩|⟨x,hx,rfl,rfl⟩
 ·exact h1.2 _ s _ _ (key lchkF x hx s)
 ·exact h2.2 _ s _ _ (key lchkX x hx s)
theorem Zfo {x:CL}{y:CLX}(hx:x.ok) (hy:y.ok) (h:x.args=y.args):False:=by
 have h1:=(Zpv (Zpv h).2).1
 have h2:x.v=y.v:=by
  have:=AV.agg.inj h1
  injection this with _ this
  injection this with _ this
  injection this with _ this
  injection this with _ this
  injection this
 have hn:=hy.n
 have hl:=hx.l.len
 have hv:Sl 6 x.l.live.length (Fb x.l.live) x.v:=hx.v
 rcases hv with ⟨e,e1,_⟩|⟨e,e1,_⟩|⟨c,e,_⟩ <;> rcases hy.v with ⟨f,f1,_⟩|⟨f,f1,_⟩|⟨d,f,_⟩ <;> rw [h2,f] at e <;> first|omega|(cases e;done)|skip
 injection e with e _ _
 omega
variable {s:St}
theorem Zbj (h:Con e 105 (Ao MU)) {x:CL}(hx:x.ok) {K:AV->St->Prop}(hk:K (.int .i64 (if x.good then 0 else 8)) s):ESc e 105 x.args s K:=by
 refine ESc.rel h ⟨_,.inl ⟨x,hx,rfl,rfl⟩⟩ ?_
 rintro u (⟨y,hy,e1,rfl⟩|⟨y,hy,e1,rfl⟩)
 ·rw [← CL.inja hx hy e1];exact hk
 ·exact (Zfo hx hy e1).elim
noncomputable def mlgF:Fn (List Lv×Unit):=bF (.v lvC.sl .nil) (fun _=>True) fun x=>JO x.1
def Eu (L:List Lv):Nat->List Int
 | 0=>[]
 | i+1=>match L[i]? with
  | some x=>if x.home=true then Eu L i else Dt x.stripe (Eu L i)
  | none=>Eu L i
variable {k:Int}
theorem Zgv {n:Int}{l:List Int}:n ∈ Dt k l↔n=k∨n ∈ l:=by
 unfold Dt
 split
 ·rename_i h
  exact ⟨.inr,fun h'=>h'.elim (fun e=>e ▸ h) id⟩
 ·simp [or_comm]
theorem ksH_mem {L:List Lv}{n:Int}:∀ {i:Nat},n ∈ Eu L i↔∃ k,k<i∧∃ y,L[k]?=some y∧y.home=false∧y.stripe=n
 | 0=>⟨fun h=>(by cases h),fun ⟨k,h,_⟩=>(by omega)⟩
 | i+1=>by
  have ih:=@ksH_mem L n i
  have up:(∃ k,k<i∧∃ y,L[k]?=some y∧y.home=false∧y.stripe=n)->∃ k,k<i+1∧∃ y,L[k]?=some y∧y.home=false∧y.stripe=n:=fun ⟨k,h,g⟩=>⟨k,by omega,g⟩
  unfold Eu
  cases hx:L[i]? with
  | none=>
   dsimp only
   rw [ih]
   refine ⟨up,fun ⟨k,h,y,g1,g2⟩=>?_⟩
   rcases Zrb.1 h with h|rfl
   ·exact ⟨k,h,y,g1,g2⟩
   ·rw [hx] at g1;cases g1
  | some x=>
   dsimp only
   split
   ·rename_i hh
    rw [ih]
    refine ⟨up,fun ⟨k,h,y,g1,g2⟩=>?_⟩
    rcases Zrb.1 h with h|rfl
    ·exact ⟨k,h,y,g1,g2⟩
    ·rw [hx] at g1;cases g1;rw [hh] at g2;cases g2.1
   ·rename_i hh
    rw [Zgv,ih]
    constructor
    ·rintro (rfl|h)
     ·exact ⟨i,by omega,x,hx,by simpa using hh,rfl⟩
     ·exact up h
    ·rintro ⟨k,h,y,g1,g2,g3⟩
     rcases Zrb.1 h with h|rfl
     ·exact .inr ⟨k,h,y,g1,g2,g3⟩
     ·rw [hx] at g1;cases g1;exact .inl g3.symm
theorem Zik (hE:EM P e):OvOk P 54 mlgF.O:=by
 refine Bv hE g54 ?_
 rintro ⟨L,_⟩ _ ⟨v,_,rfl,⟨_,e0,hL⟩,rfl⟩-K t f
 cases e0
 dsimp only at t f hL
 obtain ⟨cs,hs',hl,hn⟩:=hL.lv
 have hvf:=hL.hf
 unfold JO at t f
 conv=>whnf
 repeat' (first|(refine AD rfl hs' ?_;conv=>whnf)|fail)
 refine Ll hE (β:=List (AV×AV×Nat)×Nat) L.length (fun i b=>[(3,.map 0),(7,v),(8,.int .i64 (L.length:Int)),(9,.int .i64 (i:Int))]) (fun i b=>[.map b.1 b.2]) (fun i b=>KM (.int .i64 1) b.1 (Eu L i)∧∀ j<i,∀ x,L[j]?=some x->¬(x.home=true∧x.stripe ∈ Eu L j)) ([],0) ⟨KM.nil _,fun k h=>by omega⟩ (Abs.tells (rs:=[0]) .a) ?_
 rintro i ⟨es,N⟩ hi ⟨hK,hI⟩
 dsimp only at hK hI ⊢
 by_cases hlt:i<L.length
 ·obtain ⟨sq,st,bl,pa,su,ho,r,hx,hx',hd⟩:=hn i hlt
  have hks:Eu L (i+1)=if ho=true then Eu L i else Dt st (Eu L i):=by
   show (match L[i]? with|some x=>if x.home=true then Eu L i else Dt x.stripe (Eu L i)|none=>Eu L i)=_
   rw [hx]
  have hstep:∀ h:¬(ho=true∧st ∈ Eu L i),∀ j<i+1,∀ x,L[j]?=some x->¬(x.home=true∧x.stripe ∈ Eu L j):=fun h=>AZ hI fun x e=>by rw [hx] at e;cases e;exact h
  have hyes:ho=true->st ∈ Eu L i->∀ s,K (.bool true) s:=fun h1 h2=>by
   obtain ⟨k,hk,y,g1,g2,g3⟩:=ksH_mem.1 h2
   exact t ⟨i,k,_,y,hk,hx,g1,h1,g3,g2⟩
  cases ho
  ·rw [Zpr Bool.false_ne_true] at hks
   conv=>whnf
   repeat' (first|(refine Jk rfl rfl rfl rfl hK (fun es' N' hK'=>?_);conv=>whnf)|((first|refine Ar hs' hlt hd ?_|refine A8 (cs:=[.int .u32 sq,.int .i64 st,.int .i64 bl,.bool pa,.bool su,.bool false]) rfl ?_|refine Ac ?_|refine Av ?_|refine ⟨rfl,?_⟩);conv=>whnf)|refine Aa ?_ ?_|(intro _;first|omega|conv=>whnf))
   refine ⟨hlt,(es',N'),⟨by rw [hks];exact hK',hstep (fun q=>nomatch q.1)⟩,Abs.tells (rs:=[0]) ⟨by decide,⟨r9,t9,r9,r9,trivial⟩,⟨⟨Eb rfl hK',?_⟩,trivial⟩⟩⟩
   show _=some (AObj.map (Cc _ es') N');rw [DY rfl hK'];rfl
  ·rw [Zpn rfl] at hks
   conv=>whnf
   repeat' (first|(refine Jl rfl rfl rfl hK (fun hin=>?_) (fun hin=>?_) <;> conv=>whnf)|((first|refine Ar hs' hlt hd ?_|refine A8 (cs:=[.int .u32 sq,.int .i64 st,.int .i64 bl,.bool pa,.bool su,.bool true]) rfl ?_|refine Ac ?_|refine Au ?_|refine ⟨rfl,?_⟩);conv=>whnf)|refine Aa ?_ ?_|refine Ax ?_ ?_|(intro _;first|omega|conv=>whnf))
   all_goals first
    | exact hyes rfl hin _
    | (refine ⟨hlt,(es,N),⟨by rw [hks];exact hK,hstep (fun q=>hin q.2)⟩,Abs.tells (rs:=[0]) ⟨by decide,⟨r9,t9,r9,r9,trivial⟩,⟨⟨Eb rfl hK,?_⟩,trivial⟩⟩⟩
       show _=some (AObj.map (Cc _ es) N);rw [DY rfl hK];rfl)
 ·conv=>whnf
  repeat' (first|refine Aa ?_ ?_|(intro _;first|omega|conv=>whnf))
  refine f ?_ _
  rintro ⟨j,k,x,y,h1,h2,h3,h4,h5,h6⟩
  have hj:=(Zpk.1 h2).1
  exact hI j (by omega) x h2 ⟨h4,ksH_mem.2 ⟨k,h1,y,h3,h6,h5⟩⟩
variable {L:List Lv}
theorem Zdv {s:Int}:KQ L s↔GP L s=true∧(DH L s).par=false:=by
 have hlt:=Is L s L.length
 unfold KQ GP DH
 rw [decide_eq_true_iff]
 constructor
 ·rintro ⟨h0,h1⟩
  rw [Zpn h0]
  obtain ⟨x,hx⟩:∃ x,L[(AK L s L.length).toNat]?=some x:=⟨_,Zpj (by omega)⟩
  exact ⟨h0,by rw [hx];exact h1 x hx⟩
 ·rintro ⟨h0,h1⟩
  rw [Zpn h0] at h1
  exact ⟨h0,fun x hx=>by rw [hx] at h1;exact h1⟩
variable {bl:List (List Nat)}{sq:Int}
theorem Zdx {st:Int}{di:List Bool}{ph:Nat}{de:Bool}:Dy L (st,bl,di,ph,de,sq)↔(de=true↔GP L st=true∧(DH L st).par=false)∧(2≤ph->GP L st=true∧(DH L st).seq=sq∧(DH L st).par=true∧(DH L st).home=false∧((DH L st).sure=true↔ph≠2)):=by
 have hlt:=Is L st L.length
 unfold Dy
 dsimp only
 rw [Zdv]
 refine and_congr_right fun _=>imp_congr_right fun _=>?_
 unfold GP DH
 rw [decide_eq_true_iff]
 constructor
 ·rintro ⟨h0,h1⟩
  rw [Zpn h0]
  obtain ⟨x,hx⟩:∃ x,L[(AK L st L.length).toNat]?=some x:=⟨_,Zpj (by omega)⟩
  rw [hx]
  exact ⟨h0,h1 x hx⟩
 ·rintro ⟨h0,h1⟩
  rw [Zpn h0] at h1
  exact ⟨h0,fun x hx=>by rw [hx] at h1;exact h1⟩
noncomputable def mstF:Fn (Dv×Hd×Unit):=bF (.g dvC (.g hdC .nil)) (fun _=>True) fun x=>Dy x.1.2.2.2.2.1.2.2.2.2 x.2.1
set_option maxHeartbeats 2000000 in
theorem Zie (hE:EM P e) (h58:Con e 58 mlsF.O):OvOk P 57 mstF.O:=by
 refine Bv hE g57 ?_
 rintro ⟨⟨c,bk,⟨ev,lo,sp,po,dn,nl,br⟩,hs,⟨ag,sq,tl,us,L⟩,fs,nx,so⟩,⟨st,bl,di,ph,de,hq⟩,_⟩ _ ⟨_,_,rfl,hd,_,_,rfl,hh,rfl⟩-K t f
 have hst:=(Cm hh).choose_spec.choose_spec.2.1
 have hml:=fun (Q:AV->St->Prop) s' k=>@Fn.u _ e 58 s' Q mlsF [.agg _,.int .i64 st] h58 (_,st,()) ⟨_,_,rfl,hd,_,_,rfl,⟨rfl,Bf hst⟩,rfl⟩ trivial k
 obtain ⟨hv,lv,fv,rfl,⟨ho,o1,o2,o3,o4,o5,o6,o7,o8,oN⟩,hH,hL,hF⟩:=B1 hd
 obtain ⟨bv,dv,rfl,g1,g2,g3,g4,g5⟩:=Cm hh
 dsimp only at t f
 rw [Zdx] at t f
 unfold mlsF at hml
 dsimp only at hml
 generalize GP L st=B at *
 generalize DH L st=x at *
 obtain ⟨xq,xs,xb,xp,xu,xh⟩:=x
 replace hml:∀ (Q:AV->St->Prop) s',Q (.tup [.agg [.int .u32 xq,.int .i64 xs,.int .i64 xb,.bool xp,.bool xu,.bool xh],.bool B]) s'->ESc e 58 _ s' Q:=hml
 dsimp only at t f
 clear hd hh hst hH hL hF
 change VW P e 0 _ (An [_,.agg [.int .i64 st,bv,dv,.int .u8 (ph:Int),.bool de,.int .u32 hq]] 0 .lf) St0 none [] _
 cases B <;> cases xp <;> cases de <;> cases xu <;> cases xh
 all_goals
  conv=>whnf
  repeat' (first|((first|refine hml _ _ ?_|refine Au ?_|refine Av ?_|refine Cx ?_);conv=>whnf)|refine B8 ?_ ?_|refine Ax ?_ ?_|refine Ap ?_ ?_|(intro _;first|omega|conv=>whnf))
  all_goals first
   | exact t (by simp <;> omega) _
   | exact f (by simp <;> omega) _
   | fail
def N7 (c:Cfg):Lg->Prop
 | (ag,sq,tl,us,L)=>c.may∧EJ ⟨⟨ag,sq,tl,us,L⟩,c⟩=true
variable {v:AV}
theorem Ls.lsl (h:Ls lvC L v):LSl L v∧∀ x ∈ L,x.ok:=by
 obtain ⟨ls,a,s,_⟩:=h
 have key:∀ {L:List Lv}{ls:List (List AV)},All2 lvC.r L ls->ls.flatten=Fb L∧∀ x ∈ L,x.ok:=by
  intro L
  induction L with
  | nil=>intro _ h;cases h;exact ⟨rfl,fun x hx=>by cases hx⟩
  | cons x L ih=>
   intro _ h
   cases h with
   | cons h1 h2=>
    obtain ⟨e,g⟩:=ih h2
    obtain ⟨rfl,hx⟩:=h1
    refine ⟨by rw [List.flatten_cons,e];rfl,fun y hy=>?_⟩
    rcases Zqt.1 hy with rfl|hy
    ·exact hx
    ·exact g y hy
 obtain ⟨e,g⟩:=key a
 rw [e] at s
 exact ⟨s,g⟩
theorem Zis (h105:Con e 105 (Ao MU)) (hc:c.ok) {ag tl us:Int}(o5:Bn ag) (o6:Bn sq) (o7:Ab tl) (o8:Ab us) (hL:Ls lvC L v) (hn:L.length≤1000) (Q:AV->St->Prop) (s:St) (y:N7 c (ag,sq,tl,us,L)->Q (.int .i64 0) s) (n:¬N7 c (ag,sq,tl,us,L)->Q (.int .i64 8) s):ESc e 105 [.agg c.c,.agg [.int .u32 ag,.int .u32 sq,.int .i64 tl,.int .i64 us,v]] s Q:=by
 obtain ⟨h1,h2⟩:=hL.lsl
 refine Zbj (x:=⟨c,⟨ag,sq,tl,us,L⟩,v⟩) h105 ⟨hc,⟨o5,o6,o7,o8,h2,hn⟩,h1⟩ ?_
 by_cases h:CL.good ⟨c,⟨ag,sq,tl,us,L⟩,v⟩
 ·rw [Zpn h];exact y h
 ·rw [Zpr h];exact n h
def Zpc:AC:=match Q3 with|.mk c _=>c
noncomputable def ix108:Fn (List Fl×(Dv×Unit)×Unit):=CF ftC 108 (.p dvC .nil) (fun _ _=>True) fun d f=>d.1.2.2.2.2.2.2.1≤f.1
theorem Zk7 (h108:Inl e 108 Zpc [.tmp 3]):Fj e ftC AV.agg 108 (.p dvC .nil) (fun _ _=>True) (fun (d:Dv×Unit) f=>d.1.2.2.2.2.2.2.1≤f.1):=by
 rintro ⟨⟨c,bk,⟨ev,lo,sp,po,dn,nl,br⟩,hs,⟨ag,sq,tl,us,L⟩,fs,nx,so⟩,_⟩ q xs ⟨n,⟨k,a,m,d⟩,st,sqs,da⟩ l ⟨_,_,rfl,hd,rfl⟩ _ _ hx Q t f
 obtain ⟨hv,lv,fv,rfl,ho,hH,hL,hF⟩:=B1 hd
 obtain ⟨dv,tv,qv,av,rfl,-⟩:=Dq hx
 dsimp only at t f
 refine ECall.inl h108.O h108.G ?_;conv=>whnf
 repeat' (first|(refine As ?_;conv=>whnf)|refine AR ?_ ?_|(intro _;first|omega|conv=>whnf))
 all_goals first
  | exact t (by assumption) _
  | exact f (by omega) _
def JN:Dv->Prop
 | (c,_,o,hs,lg,fs,nx,_)=>c.may∧Br c o∧Cg c hs∧N7 c lg∧EX c fs∧(1≤nx∧nx≤2147483648)∧¬∃ f ∈ fs,nx≤f.1
noncomputable def mprF:Fn (Dv×Unit):=bF (.g dvC .nil) (fun x=>x.1.2.2.2.2.1.2.2.2.2.length≤1000) fun x=>JN x.1
set_option maxHeartbeats 2000000 in
theorem Zig (hE:EM P e) (h39:Con e 39 lossF.O) (h103:Con e 103 cfgF.O) (h104:Con e 104 shcF.O) (h105:Con e 105 (Ao MU)) (h106:Con e 106 fchF.O) (h107:Inl e 107 Tc [.tmp 4]) (h154:Con e 154 (relS (CC ix108.R))):OvOk P 52 mprF.O:=by
 refine Bv hE g52 ?_
 rintro ⟨⟨c,bk,⟨ev,lo,sp,po,dn,nl,br⟩,hs,⟨ag,sq,tl,us,L⟩,fs,nx,so⟩,_⟩ _ ⟨_,_,rfl,hd,rfl⟩ hn K t f
 dsimp only at hn t f
 have hrow:=dvC.hf hd
 have hd0:=hd
 obtain ⟨hv,lv,fv,rfl,⟨ho,o1,o2,o3,o4,o5,o6,o7,o8,oN⟩,hH,hL,hF⟩:=B1 hd
 have hc2:=fun (Q:AV->St->Prop) s a b=>@cF.u _ _ _ _ e 39 s Q _ h39 (c,_,()) ⟨_,_,rfl,⟨rfl,ho⟩,_,_,rfl,HB (sp:=sp) (nl:=nl) (br:=br) o1 o2 o3 o4,rfl⟩ trivial a b
 have hc3:=fun (Q:AV->St->Prop) s a b=>@cF.u _ _ _ _ e 104 s Q [.agg c.c,hv] h104 (c,hs,()) ⟨_,_,rfl,⟨rfl,ho⟩,_,_,rfl,⟨_,rfl,hH⟩,rfl⟩ trivial a b
 have hc4:=Zis h105 ho o5 o6 o7 o8 hL hn
 have hc5:=fun (Q:AV->St->Prop) s a b=>@cF.u _ _ _ _ e 106 s Q [.agg c.c,fv] h106 (c,fs,()) ⟨_,_,rfl,⟨rfl,ho⟩,_,_,rfl,⟨_,rfl,hF⟩,rfl⟩ trivial a b
 have hcn:=fun r (Q:AV->St->Prop) s' (hr:s'.get r=some (.row 33 _)) (y:(∃ f ∈ fs,nx≤f.1)->Q (.bool true) s') n=>XZ h107 (k:=Q) (p:=fun f:Fl=>nx≤f.1) (xs:=fs) (fun Q k=>@I5 _ ix108 e 154 s' Q h154 fv 108 [.ptr r 0] [.fp _] (fs,((c,bk,(ev,lo,sp,po,dn,nl,br),hs,(ag,sq,tl,us,L),fs,nx,so),()),()) ⟨_,_,rfl,⟨_,rfl,hF⟩,_,_,rfl,⟨_,_,rfl,hd0,rfl⟩,rfl⟩ trivial (.cons ⟨r,33,_,rfl,rfl,hr,hrow⟩ .nil) rfl k) y n
 unfold JN at t f
 dsimp only at t f hc2 hc3 hc4 hc5
 change VW P e 0 _ (An [_] 0 .lf) St0 none [] _
 by_cases hM:c.may
 ·have hc1:=Td h103 ho hM
  replace hc2:=fun (Q:AV->St->Prop) s (a:Br c (ev,lo,sp,po,dn,nl,br)->Q (.int .i64 0) s) (b:¬Br c (ev,lo,sp,po,dn,nl,br)->Q (.int .i64 8) s)=>hc2 Q s (fun q=>a q.2) (fun q=>b fun h=>q ⟨hM,h⟩)
  replace hc3:=fun (Q:AV->St->Prop) s (a:Cg c hs->Q (.int .i64 0) s) (b:¬Cg c hs->Q (.int .i64 8) s)=>hc3 Q s (fun q=>a q.2) (fun q=>b fun h=>q ⟨hM,h⟩)
  replace hc5:=fun (Q:AV->St->Prop) s (a:EX c fs->Q (.int .i64 0) s) (b:¬EX c fs->Q (.int .i64 8) s)=>hc5 Q s (fun q=>a q.2) (fun q=>b fun h=>q ⟨hM,h⟩)
  generalize Br c _=A1 at *
  generalize Cg c _=A2 at *
  generalize N7 c _=A3 at *
  generalize EX c _=A4 at *
  conv=>whnf
  repeat' (first|(refine hc2 _ _ (fun q1=>?_) (fun q1=>?_) <;> conv=>whnf)|(refine hc3 _ _ (fun q2=>?_) (fun q2=>?_) <;> conv=>whnf)|(refine hc4 _ _ (fun q3=>?_) (fun q3=>?_) <;> conv=>whnf)|(refine hc5 _ _ (fun q4=>?_) (fun q4=>?_) <;> conv=>whnf)|(refine hcn _ _ _ rfl (fun q5=>?_) (fun q5=>?_) <;> conv=>whnf)|((first|refine hc1 _ _ ?_|refine Au ?_|refine Av ?_);conv=>whnf)|refine B8 ?_ ?_|refine AR ?_ ?_|refine Ap ?_ ?_|(intro _;first|omega|conv=>whnf))
  all_goals first
   | exact t ⟨hM,q1,q2,q3,q4,⟨by assumption,by assumption⟩,q5⟩ _
   | exact f (fun q=>q1 q.2.1) _
   | exact f (fun q=>q2 q.2.2.1) _
   | exact f (fun q=>q3 q.2.2.2.1) _
   | exact f (fun q=>q4 q.2.2.2.2.1) _
   | exact f (fun q=>q.2.2.2.2.2.2 q5) _
   | exact f (fun q=>by omega) _
 ·have hc1:=Te h103 ho hM
  conv=>whnf
  repeat' (first|(refine hc1 _ _ ?_;conv=>whnf)|refine Ap ?_ ?_|(intro _;first|omega|conv=>whnf))
  exact f (fun q=>hM q.1) _
def PM (es:List (AV×AV×Nat)) (l:List Hd):Prop:=es.map (fun e=>(e.1,e.2.1))=l.map (fun h=>(AV.int .i64 h.1,AV.int .u8 (h.2.2.2.1:Int)))
theorem PM.cons {e:AV×AV×Nat}{es:List (AV×AV×Nat)}{l:List Hd}(h:PM (e::es) l):∃ x m,l=x::m∧e.1=.int .i64 x.1∧e.2.1=.int .u8 (x.2.2.2.1:Int)∧PM es m:=by
 cases l with
 | nil=>cases h
 | cons k l=>
  unfold PM at h
  simp at h
  exact ⟨k,l,rfl,h.1.1,h.1.2,h.2⟩
theorem PM.find {k:Int}:∀ {es:List (AV×AV×Nat)}{l:List Hd},PM es l->CM (.int .i64 k) es=some ((l.find? fun h=>decide (h.1=k)).map fun h=>AV.int .u8 (h.2.2.2.1:Int))
 | [],l,h=>by
  have:l=[]:=by
   have:=congrArg List.length h
   simp at this
   exact Zqh.1 this.symm
  subst this;rfl
 | (a,b,n)::es,l,h=>by
  obtain ⟨x,m,rfl,e1,e2,h'⟩:=h.cons
  dsimp only at e1 e2
  subst e1 e2
  show (match Fi (.int .i64 k) (.int .i64 x.1) with|some true=>some (some _)|some false=>CM (.int .i64 k) es|none=>none)=_
  rw [Oj,List.find?_cons]
  by_cases hk:x.1=k
  ·rw [Zpo hk,show (k == x.1)=true by simp [hk]];rfl
  ·rw [Zp0 hk,show (k == x.1)=false by simp only [beq_eq_false_iff_ne];exact fun e=>hk e.symm]
   simp only
   rw [PM.find h']
variable {es:List (AV×AV×Nat)}{x:Hd}{n:Nat}
theorem PM.app {l:List Hd}(h:PM es l):PM (es++[(.int .i64 x.1,.int .u8 (x.2.2.2.1:Int),n)]) (l++[x]):=by
 unfold PM at h ⊢;simp [h]
theorem KT {n:Nat}:∀ {es:List (AV×AV×Nat)}{l:List Hd},PM es l->Jf n es=true
 | [],_,h=>rfl
 | (a,b,m)::es,_,h=>by
  obtain ⟨x,l,rfl,e1,e2,h'⟩:=h.cons
  dsimp only at e1 e2
  subst e1 e2
  show (true && true && Jf n es)=true
  rw [KT h'];rfl
theorem KA {ρ:Nat->Nat}:∀ {es:List (AV×AV×Nat)}{l:List Hd},PM es l->Cc ρ es=es
 | [],_,h=>rfl
 | (a,b,m)::es,_,h=>by
  obtain ⟨x,l,rfl,e1,e2,h'⟩:=h.cons
  dsimp only at e1 e2
  subst e1 e2
  show (AV.int .i64 _,AV.int .u8 _,m)::Cc ρ es=_
  rw [KA h']
variable {t:AT}{q:AV->St->Prop}{r:Nat}
theorem Zas {x y z:AO}{h:Hd}{l:List Hd}(hx:ev x t=.some (.map r)) (hy:ev y t=.some (.int .i64 h.1)) (hz:ev z t=.some (.int .u8 (h.2.2.2.1:Int))) (hs:s.get r=some (.map es n)) (hk:PM es l) (hn:∀ g ∈ l,g.1≠h.1)
 (hq:∀ es' n',PM es' (l++[h])->q (.tup []) (s.put r (.map es' n'))):EPrim (.mset x y z) t s q:=by
 refine EPrim.mk (v:=.tup []) (s':=s.put r (.map (es++[(.int .i64 h.1,.int .u8 (h.2.2.2.1:Int),n)]) (n+1))) (fun e rec=>?_) (hq _ _ hk.app)
 show wth x t _=_;unfold wth;rw [hx]
 show wth y t _=_;unfold wth;rw [hy]
 show wth z t _=_;unfold wth;rw [hz]
 show (Option.rec .fail _ (mapAt r s):RV)=_
 unfold mapAt;rw [hs]
 show (Option.rec .fail _ (CM (.int .i64 h.1) es):RV)=_
 rw [hk.find,List.find?_eq_none.2 fun g hg=>by simpa using hn g hg]
 show RV.ok _ (s.put r (.map (Be es [(.int .i64 h.1,.int .u8 (h.2.2.2.1:Int),n)]) (n+1)))=_
 rw [Da]
theorem Zat {x y:AO}{zv:AV}{l:List Hd}(hx:ev x t=.some (.map r)) (hy:ev y t=.some (.int .i64 k)) (hs:s.get r=some (.map es n)) (hk:PM es l)
 (h1:∀ h,l.find? (fun h=>decide (h.1=k))=some h->q (.tup [.int .u8 (h.2.2.2.1:Int),.bool true]) s) (h2:l.find? (fun h=>decide (h.1=k))=none->q (.tup [zv,.bool false]) s):EPrim (.mget zv true x y) t s q:=by
 cases hm:l.find? (fun h=>decide (h.1=k)) with
 | some h=>
  refine EPrim.mk (v:=.tup [.int .u8 (h.2.2.2.1:Int),.bool true]) (s':=s) (fun e rec=>?_) (h1 h hm)
  show wth x t _=_;unfold wth;rw [hx]
  show wth y t _=_;unfold wth;rw [hy]
  show (Option.rec .fail _ (mapAt r s):RV)=_
  unfold mapAt;rw [hs]
  show (Option.rec .fail _ (CM (.int .i64 k) es):RV)=_
  rw [hk.find,hm];rfl
 | none=>
  refine EPrim.mk (v:=.tup [zv,.bool false]) (s':=s) (fun e rec=>?_) (h2 hm)
  show wth x t _=_;unfold wth;rw [hx]
  show wth y t _=_;unfold wth;rw [hy]
  show (Option.rec .fail _ (mapAt r s):RV)=_
  unfold mapAt;rw [hs]
  show (Option.rec .fail _ (CM (.int .i64 k) es):RV)=_
  rw [hk.find,hm];rfl
theorem Zjs {hs:List Hd}{s:Int}:(∀ h,hs.find? (fun h=>decide (h.1=s))=some h->0≤A9 hs s∧hs[(A9 hs s).toNat]?=some h)∧(hs.find? (fun h=>decide (h.1=s))=none->A9 hs s=-1):=by
 unfold A9
 constructor
 ·intro h hf
  cases hi:hs.findIdx? (fun h=>decide (h.1=s)) with
  | none=>
   rw [List.findIdx?_eq_none_iff] at hi
   have:=List.find?_some hf
   have hm:=List.mem_of_find?_eq_some hf
   rw [hi h hm] at this;cases this
  | some i=>
   dsimp only
   refine ⟨by omega,?_⟩
   rw [Int.toNat_natCast]
   obtain ⟨h1,h2,h3⟩:=List.findIdx?_eq_some_iff_getElem.1 hi
   rw [Zpj h1]
   rw [List.find?_eq_some_iff_getElem] at hf
   obtain ⟨g1,j,hj,g2,g3⟩:=hf
   rcases Nat.lt_trichotomy i j with hij|hij|hij
   ·have:=g3 i hij;simp at this h2;exact absurd h2 this
   ·subst hij;rw [g2]
   ·have:=h3 j hij
    rw [g2] at this
    exact absurd g1 this
 ·intro hf
  rw [List.find?_eq_none] at hf
  rw [List.findIdx?_eq_none_iff.2 fun x hx=>by simpa using hf x hx]
def cd56:AC:=match a56 with|.mk c _=>c
noncomputable def ix56:Fn (List Hd×Unit×Unit):=CF hdC 56 .nil (fun _ _=>True) fun _ h=>h.2.2.2.2.1=true∨h.2.2.2.1=2∨h.2.2.2.1=3
theorem Znp (h56:Inl e 56 cd56 [.tmp 2]):Fj e hdC AV.agg 56 .nil (fun _ _=>True) (fun (_:Unit) h=>h.2.2.2.2.1=true∨h.2.2.2.1=2∨h.2.2.2.1=3):=by
 rintro c q xs ⟨st,bl,di,ph,de,sq⟩ l rfl _ _ hx Q y n
 obtain ⟨bv,dv,rfl,-⟩:=Cm hx
 dsimp only at y n
 refine ECall.inl h56.O h56.G ?_
 cases de
 all_goals
  conv=>whnf
  repeat' (first|refine Ap ?_ ?_|(intro _;first|omega|conv=>whnf))
  all_goals first
   | exact y (.inl rfl) _
   | exact y (by omega) _
   | exact n (fun q=>by simp at q;omega) _
def IU:Dv->Prop
 | (c,bk,(ev,lo,sp,po,dn,nl,br),hs,(ag,sq,tl,us,L),fs,nx,so)=>JN (c,bk,(ev,lo,sp,po,dn,nl,br),hs,(ag,sq,tl,us,L),fs,nx,so)∧Lh c hs fs∧¬JO L∧(nl=true->JH hs L)∧(nl=false->(∀ i<hs.length,∀ h,hs[i]?=some h->Dy L h)∧∀ i<L.length,∀ x,L[i]?=some x->Fh L hs x.stripe)
noncomputable def mckF:Fn (Dv×Unit):=cF (.g dvC .nil) (fun x=>x.1.2.2.2.2.1.2.2.2.2.length≤1000) fun x=>IU x.1
variable {i:Nat}
theorem Zfs {x:Lv}(hx:L[i]?=some x):Fh L hs x.stripe↔((DH L x.stripe).par=false->0≤A9 hs x.stripe)∧((DH L x.stripe).par=true->(DH L x.stripe).home=false->0≤A9 hs x.stripe∧∀ h,hs[(A9 hs x.stripe).toNat]?=some h->2≤h.2.2.2.1):=by
 have hl:=(Zpk.1 hx).1
 have h0:=Rm hx rfl L.length hl
 have hlt:=Is L x.stripe L.length
 obtain ⟨y,hy⟩:∃ y,L[(AK L x.stripe L.length).toNat]?=some y:=⟨_,Zpj (by omega)⟩
 have:DH L x.stripe=y:=by unfold DH;rw [Zpn (by omega),hy];rfl
 rw [this]
 unfold Fh
 rw [hy]
 exact ⟨fun h=>h y rfl,fun h z hz=>by cases hz;exact h⟩
set_option maxHeartbeats 2000000 in
theorem Zin (hE:EM P e) (h52:Con e 52 mprF.O) (h53:Con e 53 mhlF.O) (h54:Con e 54 mlgF.O) (h55:Inl e 55 T5 [.tmp 4]) (h57:Con e 57 mstF.O) (h58:Con e 58 mlsF.O) (h110:Con e 110 (relS (CC ix56.R))):OvOk P 18 mckF.O:=by
 refine JG hE g18 ?_
 rintro ⟨⟨c,bk,⟨ev,lo,sp,po,dn,nl,br⟩,hs,⟨ag,sq,tl,us,L⟩,fs,nx,so⟩,_⟩ _ ⟨_,_,rfl,hd,rfl⟩ hn1000 K t f
 dsimp only at hn1000
 have hrow:=dvC.hf hd
 have hc1:=fun (Q:AV->St->Prop) s a b=>@bF.u _ _ _ _ e 52 s Q _ h52 (_,()) ⟨_,_,rfl,hd,rfl⟩ hn1000 a b
 have hc2:=fun (hq:JN (c,bk,(ev,lo,sp,po,dn,nl,br),hs,(ag,sq,tl,us,L),fs,nx,so)) (Q:AV->St->Prop) s a b=>@bF.u _ _ _ _ e 53 s Q _ h53 (_,()) ⟨_,_,rfl,hd,rfl⟩ ⟨hq.1,hq.2.2.1,hq.2.2.2.2.1⟩ a b
 have hc5:=fun h l (hh:hdC.r h l) (Q:AV->St->Prop) s a b=>@bF.u _ _ _ _ e 57 s Q _ h57 (_,h,()) ⟨_,_,rfl,hd,_,_,rfl,hh,rfl⟩ trivial a b
 have hc6:=fun s' (hs':Ab s') (Q:AV->St->Prop) st k=>@Fn.u _ e 58 st Q mlsF [.agg _,.int .i64 s'] h58 (_,s',()) ⟨_,_,rfl,hd,_,_,rfl,⟨rfl,Bf hs'⟩,rfl⟩ trivial k
 obtain ⟨hv,lv,fv,rfl,⟨ho,o1,o2,o3,o4,o5,o6,o7,o8,oN⟩,hH,hL,hF⟩:=B1 hd
 obtain ⟨cs,hs1,hl1,hn1⟩:=hH.nth
 obtain ⟨ls,hs2,hl2,hn2⟩:=hL.lv
 have hvf:=hH.hf
 have hlf:=hL.hf
 have hc3:=fun (Q:AV->St->Prop) s a b=>@bF.u _ _ _ _ e 54 s Q [lv] h54 (L,()) ⟨_,_,rfl,⟨_,rfl,hL⟩,rfl⟩ trivial a b
 have hc4:=fun (Q:AV->St->Prop) s y n=>Y9 (k:=Q) (s:=s) h55 (p:=fun h:Hd=>h.2.2.2.2.1=true∨h.2.2.2.1=2∨h.2.2.2.1=3) (xs:=hs) (fun Q k=>@I5 _ ix56 e 110 s Q h110 hv 56 [] [] (hs,(),()) ⟨_,_,rfl,⟨_,rfl,hH⟩,_,_,rfl,rfl,rfl⟩ trivial .nil rfl k) y n
 have hbare:JH hs L↔L.length=0∧¬∃ h ∈ hs,h.2.2.2.2.1=true∨h.2.2.2.1=2∨h.2.2.2.1=3:=by
  unfold JH
  refine and_congr_right fun _=>?_
  constructor
  ·rintro h ⟨x,hx,hq⟩
   obtain ⟨i,hi⟩:=Zra hx
   have:=h i (Zpk.1 hi).1 x hi
   rcases hq with hq|hq|hq
   ·rw [hq] at this;cases this.1
   ·exact this.2.1 hq
   ·exact this.2.2 hq
  ·intro h i hi x hx
   have hm:=Zp5 hx
   exact ⟨Bool.eq_false_iff.2 fun q=>h ⟨x,hm,.inl q⟩,fun q=>h ⟨x,hm,.inr (.inl q)⟩,fun q=>h ⟨x,hm,.inr (.inr q)⟩⟩
 have hshB:JN (c,bk,(ev,lo,sp,po,dn,nl,br),hs,(ag,sq,tl,us,L),fs,nx,so)->Cg c hs:=fun h=>h.2.2.1
 unfold IU at t f
 dsimp only at t f hc1 hc2 hc3 hc4
 rw [hbare] at t f
 generalize (∃ h ∈ hs,h.2.2.2.2.1=true∨h.2.2.2.1=2∨h.2.2.2.1=3)=A4 at *
 generalize JN _=A1 at *
 generalize Lh c hs fs=A2 at *
 generalize JO L=A3 at *
 change VW P e 0 _ (An [_] 0 .lf) St0 none [] _
 cases nl
 all_goals
  conv=>whnf
  repeat' (first|(refine hc1 _ _ (fun q1=>?_) (fun q1=>?_) <;> conv=>whnf)|(refine hc2 q1 _ _ (fun q2=>?_) (fun q2=>?_) <;> conv=>whnf)|(refine hc3 _ _ (fun q3=>?_) (fun q3=>?_) <;> conv=>whnf)|(refine hc4 _ _ (fun q4=>?_) (fun q4=>?_) <;> conv=>whnf)|((first|refine Am hs1 ?_|refine Am hs2 ?_|refine Au ?_|refine Av ?_);conv=>whnf)|refine Ax ?_ ?_|(intro _;first|omega|conv=>whnf))
  all_goals try first
   | exact f (fun q=>q1 q.1) _
   | exact f (fun q=>q2 q.2.1) _
   | exact f (fun q=>q.2.2.1 q3) _
   | exact f (fun q=>(q.2.2.2.1 rfl).2 q4) _
   | exact f (fun q=>by have:=(q.2.2.2.1 rfl).1;omega) _
   | exact t ⟨q1,q2,q3,fun _=>⟨by omega,q4⟩,fun h=>nomatch h⟩ _
 have hsh:=hshB q1
 refine Ll hE (β:=List (AV×AV×Nat)×Nat) hs.length (fun i b=>[(1,.ptr 0 0),(3,.map 1),(41,hv),(42,.int .i64 (hs.length:Int)),(43,.int .i64 (i:Int))]) (fun i b=>[.row 33 (c.c++[.bool bk,.int .u32 ev,.int .i64 lo,.bool sp,.int .i64 po,.int .i64 dn,.bool false,.bool br,hv,.int .u32 ag,.int .u32 sq,.int .i64 tl,.int .i64 us,lv,fv,.int .i64 nx,.bool so]),.map b.1 b.2]) (fun i b=>PM b.1 (hs.take i)∧∀ j<i,∀ h,hs[j]?=some h->Dy L h) ([],0) ⟨rfl,fun k h=>by omega⟩ (Abs.tells (rs:=[0,1]) .a) ?_
 rintro i ⟨es,N⟩ hi ⟨hP,hI⟩
 dsimp only at hP hI ⊢
 by_cases hlt:i<hs.length
 ·obtain ⟨x,l,r,hx,hxr,hd2⟩:=hn1 i hlt
  have hc5:=hc5 x l hxr
  have hfh:¬Dy L x->∀ s,K (.int .i64 8) s:=fun g=>f fun q=>g ((q.2.2.2.2 rfl).1 i hlt x hx)
  have hth:Dy L x->∀ j<i+1,∀ h,hs[j]?=some h->Dy L h:=fun g=>AZ hI fun y e=>by rw [hx] at e;cases e;exact g
  have htk:hs.take i++[x]=hs.take (i+1):=by rw [List.take_add_one,hx];rfl
  have hne:∀ g ∈ hs.take i,g.1≠x.1:=fun g hg=>by
   obtain ⟨j,hj⟩:=Zra hg
   rw [Zqw] at hj
   split at hj
   ·exact (hsh.1 i hlt x hx).2 j (by assumption) g hj
   ·cases hj
  obtain ⟨st,bl,di,ph,de,hsq⟩:=x
  obtain ⟨bv,dv,rfl,-⟩:=Cm hxr
  dsimp only at hc5
  clear hn1 hn2 hI hc1 hc2 hc3 hc4 hc6
  conv=>whnf
  repeat' (first|(refine hc5 _ _ (fun hq=>?_) (fun hq=>?_) <;> conv=>whnf)|(refine Zas (h:=(st,bl,di,ph,de,hsq)) rfl rfl rfl rfl hP hne (fun es' N' hP'=>?_);conv=>whnf)|((first|refine Ar hs1 hlt hd2 ?_|refine A8 (cs:=[.int .i64 st,bv,dv,.int .u8 (ph:Int),.bool de,.int .u32 hsq]) rfl ?_|refine Ac ?_|refine Au ?_|refine Av ?_|refine ⟨rfl,?_⟩);conv=>whnf)|refine Aa ?_ ?_|(intro _;first|omega|conv=>whnf))
  ·refine ⟨hlt,(es',N'),⟨by rw [← htk];exact hP',hth hq⟩,Abs.tells (rs:=[0,1]) ⟨by decide,⟨r9,r9,t9,r9,r9,trivial⟩,⟨o9 hrow,⟨KT hP',?_⟩,trivial⟩⟩⟩
   show _=some (AObj.map (Cc _ es') N');rw [KA hP'];rfl
  ·exact hfh hq _
 ·obtain rfl:i=hs.length:=by omega
  rw [List.take_length] at hP
  have hI:∀ j<hs.length,∀ h,hs[j]?=some h->Dy L h:=hI
  conv=>whnf
  repeat' (first|(refine Am hs2 ?_;conv=>whnf)|refine Aa ?_ ?_|(intro _;first|omega|conv=>whnf))
  refine Aw hE L.length (fun i=>[(1,.ptr 0 0),(3,.map 1),(59,lv),(60,.int .i64 (L.length:Int)),(61,.int .i64 (i:Int))]) (fun i=>[.row 33 (c.c++[.bool bk,.int .u32 ev,.int .i64 lo,.bool sp,.int .i64 po,.int .i64 dn,.bool false,.bool br,hv,.int .u32 ag,.int .u32 sq,.int .i64 tl,.int .i64 us,lv,fv,.int .i64 nx,.bool so]),.map es N]) (fun i=>∀ j<i,∀ x,L[j]?=some x->Fh L hs x.stripe) (fun k h=>by omega) (Abs.tells (rs:=[0,1]) ⟨by decide,⟨r9,r9,t9,r9,r9,trivial⟩,⟨o9 hrow,⟨KT hP,?_⟩,trivial⟩⟩) ?_
  ·show _=some (AObj.map (Cc _ es) N);rw [KA hP];rfl
  intro i hi hJ
  by_cases hlt2:i<L.length
  ·obtain ⟨sq',st',bl',pa,su,ho',r,hx,hx',hd2⟩:=hn2 i hlt2
   have hc6:=hc6 st' hx'.2.1
   have hkl:=Zfs (hs:=hs) hx
   dsimp only at hkl
   have hfh:¬Fh L hs st'->∀ s,K (.int .i64 8) s:=fun g=>f fun q=>g ((q.2.2.2.2 rfl).2 i hlt2 _ hx)
   have hth:Fh L hs st'->∀ j<i+1,∀ x,L[j]?=some x->Fh L hs x.stripe:=fun g=>AZ hJ fun y e=>by rw [hx] at e;cases e;exact g
   rw [hkl] at hfh hth
   have hfp:=@Zjs hs st'
   have hpl:=Ht hs st'
   unfold mlsF at hc6
   dsimp only at hc6
   generalize GP L st'=B at *
   generalize DH L st'=y at *
   obtain ⟨xq,xs,xb,xp,xu,xh⟩:=y
   replace hc6:∀ (Q:AV->St->Prop) s',Q (.tup [.agg [.int .u32 xq,.int .i64 xs,.int .i64 xb,.bool xp,.bool xu,.bool xh],.bool B]) s'->ESc e 58 _ s' Q:=hc6
   dsimp only at hfh hth
   clear hkl hn1 hn2 hJ hI hc1 hc2 hc3 hc4 hc5 t f
   cases xp <;> cases xh
   all_goals
    conv=>whnf
    repeat' (first|(refine Zat rfl rfl rfl hP (fun h qs=>?_) (fun qs=>?_) <;> conv=>whnf)|((first|refine Ar hs2 hlt2 hd2 ?_|refine A8 (cs:=[.int .u32 sq',.int .i64 st',.int .i64 bl',.bool pa,.bool su,.bool ho']) rfl ?_|refine hc6 _ _ ?_|refine Ac ?_|refine Au ?_|refine Av ?_|refine ⟨rfl,?_⟩);conv=>whnf)|refine Aa ?_ ?_|refine B8 ?_ ?_|(intro _;first|omega|conv=>whnf))
    all_goals first
     | exact ⟨hlt2,hth ⟨(fun q=>Bool.noConfusion q),(fun _ q=>Bool.noConfusion q)⟩,Abs.tells (rs:=[0,1]) ⟨by decide,⟨r9,r9,t9,r9,r9,trivial⟩,⟨o9 hrow,⟨KT hP,by show _=some (AObj.map (Cc _ es) N);rw [KA hP];rfl⟩,trivial⟩⟩⟩
     | exact ⟨hlt2,hth ⟨(fun _=>(hfp.1 h qs).1),(fun q=>Bool.noConfusion q)⟩,Abs.tells (rs:=[0,1]) ⟨by decide,⟨r9,r9,t9,r9,r9,trivial⟩,⟨o9 hrow,⟨KT hP,by show _=some (AObj.map (Cc _ es) N);rw [KA hP];rfl⟩,trivial⟩⟩⟩
     | exact hfh (fun q=>by have:=q.1 rfl;have:=hfp.2 qs;omega) _
     | exact hfh (fun q=>by have:=(q.2 rfl rfl).2 _ (hfp.1 h qs).2;omega) _
     | exact ⟨hlt2,hth ⟨(fun q=>Bool.noConfusion q),fun _ _=>⟨(hfp.1 h qs).1,fun g hg=>by rw [(hfp.1 h qs).2] at hg;cases hg;omega⟩⟩,Abs.tells (rs:=[0,1]) ⟨by decide,⟨r9,r9,t9,r9,r9,trivial⟩,⟨o9 hrow,⟨KT hP,by show _=some (AObj.map (Cc _ es) N);rw [KA hP];rfl⟩,trivial⟩⟩⟩
     | exact hfh (fun q=>by have:=(q.2 rfl rfl).1;have:=hfp.2 qs;omega) _
  ·conv=>whnf
   repeat' (first|refine Aa ?_ ?_|(intro _;first|omega|conv=>whnf))
   exact t ⟨q1,q2,q3,(fun h=>nomatch h),fun _=>⟨hI,fun j hj=>hJ j (by omega)⟩⟩ _
variable {l:List AV}{a:Int}
theorem Zj8 (h49:Con e 49 drdF.O) {x:Dk}(hx:dkC.r x l) (hs:BG x) (hp:Cy x) (ha:0≤a∧a<x.1.length) (Q:AV->St->Prop) (s:St) (k:Q (if x.2.2=true then .tup [.nils,.int .i64 40] else .tup [Az (Cb x a),.int .i64 0]) s):ESc e 49 [.agg l,.int .i64 a] s Q:=by
 obtain ⟨y,hy,rfl⟩:=IK hx
 have hi:=KO hy
 have hok:=KI hy hs
 have hn:=hok.n
 have hus:y.us.length=x.1.length:=by rw [hy.a.bs.length,hy.b]
 have hd:AX y=true:=by rw [hi];exact hp
 refine ESc.fam (e:=e) (k:=Q) (s:=s) drdF h49 ⟨y,a⟩ ⟨hok,by dsimp only;unfold Ab;omega⟩ rfl ?_
 have he:(DKA.mk y a).e=if x.2.2=true then 40 else 0:=by
  show JT y a=_
  unfold JT
  rw [Zpn hd,Zpn (by omega),hy.d]
 show Q (Hw ⟨y,a⟩) s
 unfold Hw
 rw [he]
 cases hdd:x.2.2
 ·rw [hdd,Zpr Bool.false_ne_true] at k
  rw [Zpr Bool.false_ne_true,Zpn rfl,show Ah (DKA.mk y a).b=Cb x a from K7 hy a]
  exact k
 ·rw [hdd,Zpn rfl] at k
  rw [Zpn rfl,Zpr (by decide)]
  exact k
open Classical in
noncomputable def JV (d:Dv) (D:List Dk):Int:=if IU d∧d.1.may∧C3 d.1 D then (if d.2.2.1.2.2.2.2.2.2=true then 230 else 0) else 8
noncomputable def askF:Fn (Dv×List Dk×Unit):=⟨.g dvC (.v dkC.sl .nil),fun x=>x.1.2.2.2.2.1.2.2.2.2.length≤1000∧∀ d ∈ x.2.1,BG d,fun x=>.int .i64 (JV x.1 x.2.1)⟩
theorem Zlf (hE:EM P e) (h18:Con e 18 mckF.O) (h19:Con e 19 ftcF.O):OvOk P 35 askF.O:=by
 refine B3 g35.b ?_
 rintro ⟨d,D,_⟩ _ ⟨l,_,rfl,hd,v,_,rfl,⟨_,e0,hD⟩,rfl⟩ ⟨hn,hsm⟩
 cases e0
 dsimp only at hD hn hsm
 refine ⟨rfl,C.of_G hE g35 ?_⟩
 have hc1:=fun (Q:AV->St->Prop) s a b=>@cF.u _ _ _ _ e 18 s Q _ h18 (d,()) ⟨_,_,rfl,hd,rfl⟩ hn a b
 have hc2:=fun (c:Cfg) (hc:c.ok) (Q:AV->St->Prop) s a b=>@cF.u _ _ _ _ e 19 s Q [.agg c.c,v] h19 (c,D,()) ⟨_,_,rfl,⟨rfl,hc⟩,_,_,rfl,⟨_,rfl,hD⟩,rfl⟩ hsm a b
 have fin:∀ st n,JV d D=n->Frz st (.int .i64 n) (askF.out (d,D,())):=by
  rintro st n rfl;exact .plain _ rfl
 generalize askF.out _=O at fin ⊢
 unfold JV at fin
 dsimp only at hc1 hc2
 generalize IU d=A1 at *
 have hvf:=hD.hf
 obtain ⟨c,bk,⟨ev,lo,sp,po,dn,nl,br⟩,hs,⟨ag,sq,tl,us,L⟩,fs,nx,so⟩:=d
 obtain ⟨hv,lv,fv,rfl,ho,hH,hL,hF⟩:=B1 hd
 have hc2:=hc2 c ho.1
 dsimp only at fin
 change VW P e 0 _ (An [_,v] 0 .lf) St0 none [] _
 cases br
 all_goals
  conv=>whnf
  repeat' (first|(refine hc1 _ _ (fun q1=>?_) (fun q1=>?_) <;> conv=>whnf)|(refine hc2 _ _ (fun q2=>?_) (fun q2=>?_) <;> conv=>whnf)|refine Al ?_ ?_|(intro _;first|omega|conv=>whnf))
  all_goals first
   | exact fin _ _ (by rw [Zpr fun q=>q1 q.1])
   | exact fin _ _ (by rw [Zpr fun q=>q2 q.2])
   | exact fin _ _ (by rw [Zpn ⟨q1,q2⟩,Zpr Bool.false_ne_true])
   | exact fin _ _ (by rw [Zpn ⟨q1,q2⟩,Zpn rfl])
def dkV:Ce DK:=⟨3,fun y l=>l=y.c∧y.ok,by rintro _ _ ⟨rfl,_⟩;rfl,by
 rintro y _ ⟨rfl,h⟩
 have:=DK.hf h.a
 show hfs y.c=true
 have e:AM.hf (.agg y.c)=true:=this
 simpa [AM.hf] using e,by
 rintro x y _ ⟨rfl,h1⟩ ⟨e,h2⟩
 exact DK.inj h1.a h2.a (congrArg AV.agg e)⟩
def Aq (x:DK):DK:=⟨.fz x.us.length none (x.us.map Af),x.us.map Af,x.bs,(match x.ws.length with|0=>.nils|m+1=>.fz (m+1) none (Ag (x.ws.map A5))),x.ws.map A5,x.dead⟩
def twF:Fn (DK×Unit):=⟨.g dkV .nil,fun x=>1≤x.1.us.length,fun x=>(Aq x.1).v⟩
theorem Zlu (hE:EM P e) (h141:Inl e 119 Hr [.tmp 2]):OvOk P 66 twF.O:=by
 refine B3 g66.b ?_
 rintro ⟨x,_⟩ _ ⟨_,_,rfl,⟨rfl,hx⟩,rfl⟩ h1
 have h1:1≤x.us.length:=h1
 have hcl:hfs (x.us.map Af)=true:=Mh hx.a
 have hwl:hfs (Ag (x.ws.map A5))=true:=F1 fun w hw=>by
  obtain ⟨v,hv,rfl⟩:=Zqj.1 hw
  rcases (hx.a.ws v hv).b.1 with ⟨h,_⟩|⟨h,_⟩|⟨c,h,_⟩ <;> (show AM.hf (Af v.u)=true;rw [h];rfl)
 refine ⟨by show AM.hf (Aq x).v=true;unfold Aq DK.v DK.c;dsimp only;split <;> rfl,((OO hE h141).2 [x.v] St0 _ _ (K5 ⟨hx,h1⟩ St0)).mono ?_⟩
 rintro v s' ⟨rfl,rfl⟩
 show Frz _ (HT 0 x) (Aq x).v
 unfold HT Gu Aq DK.v DK.c
 dsimp only
 cases hw:x.ws.length with
 | zero=>exact .agg _ _ (.cons (.sl 0 0 _ _ _ 76 _ _ _ rfl (fun i x h=>by rw [Zpy];exact h) (Ck hcl) (.inl rfl)) (.cons (.plain _ rfl) (.cons (.plain _ rfl) .nil)))
 | succ m=>exact .agg _ _ (.cons (.sl 0 0 _ _ _ 76 _ _ _ rfl (fun i x h=>by rw [Zpy];exact h) (Ck hcl) (.inl rfl)) (.cons (.sl 1 0 _ _ _ 146 _ _ _ rfl (fun i x h=>by rw [Zpy];exact h) (Ck hwl) (.inl rfl)) (.cons (.plain _ rfl) .nil)))
theorem Sk {x:DK}(h:x.ok):(Aq x).ok:=by
 refine ⟨⟨?_,K2 h.a.bs,?_,?_⟩,?_,?_,h.b,?_⟩
 ·exact .inr (.inr ⟨_,by show AV.fz x.us.length none (x.us.map Af)=.fz (x.us.map Af).length none (x.us.map Af);rw [Zpq],(Zqm _).symm⟩)
 ·show Sl 2 (x.ws.map A5).length (Ag (x.ws.map A5)) (match x.ws.length with|0=>.nils|m+1=>.fz (m+1) none (Ag (x.ws.map A5)))
  cases hw:x.ws with
  | nil=>exact .inl ⟨rfl,rfl,rfl⟩
  | cons w W=>
   refine .inr (.inr ⟨none,?_,?_⟩)
   ·rw [Zpq];rfl
   ·have:∀ L:List WR,(Ag L).length=L.length*2:=fun L=>by
     induction L with
     | nil=>rfl
     | cons w L ih=>rw [Fy,Zpx,ih,Zqd];show 2+_=_;omega
    exact this _
 ·intro w hw
  obtain ⟨v,hv,rfl⟩:=Zqj.1 hw
  exact Iv (h.a.ws v hv)
 ·show (x.us.map Af).length<_;rw [Zpq];exact h.n
 ·show (x.ws.map A5).length<_;rw [Zpq];exact h.m
 ·intro w hw
  obtain ⟨v,hv,rfl⟩:=Zqj.1 hw
  exact h.w v hv
def Ei (ys:List DK):List AV:=ys.flatMap fun y=>(Aq y).c
variable {ys:List DK}
theorem XB (h:∀ y ∈ ys,y.ok):hfs (Ei ys)=true:=by
 refine hfs_iff.2 fun v hv=>?_
 obtain ⟨y,hy,hv⟩:=List.mem_flatMap.1 hv
 have:=DK.hf (Sk (h y hy)).a
 have e:AM.hf (.agg (Aq y).c)=true:=this
 have e:hfs (Aq y).c=true:=by simpa [AM.hf] using e
 exact hfs_iff.1 e v hv
theorem WG:∀ ys:List DK,(Ei ys).length=ys.length*3
 | []=>rfl
 | y::ys=>by unfold Ei;rw [List.flatMap_cons,Zpx,show (ys.flatMap fun y=>(Aq y).c).length=ys.length*3 from WG ys,Zqd];show 3+_=_;omega
def Pz (args:List AV) (s:St) (u:AV) (s':St):Prop:=∃ v ys,args=[v]∧Ls dkV ys v∧(1≤ys.length∧ys.length≤1000)∧(∀ y ∈ ys,1≤y.us.length)∧u=.sl s.next 0 ys.length none∧s'=s.alloc (.row 60 (Ei ys))
theorem Ls.mem {α:Type}{A:Ce α}{xs:List α}(h:Ls A xs v) {x:α}(hx:x ∈ xs):∃ l,A.r x l:=by
 obtain ⟨ls,a,-⟩:=h
 obtain ⟨i,hi⟩:=Zra hx
 obtain ⟨l,-,hr⟩:=a.get hi
 exact ⟨l,hr⟩
theorem Zhd (hE:EM P e) (h66:Con e 66 twF.O):OvOk P 37 (relS Pz):=by
 refine Jv g37.b ?_
 rintro args s u s' ⟨v,ys,rfl,hL,hn,h1,rfl,rfl⟩
 have hvf:=hL.hf
 have hoks:∀ y ∈ ys,y.ok:=fun y hy=>by obtain ⟨l,-,h⟩:=hL.mem hy;exact h
 obtain ⟨cs,hs',hl',hnth⟩:=hL.nth
 have hf0:=XB hoks
 have key:C P 37 [v] St0 (fun w s'=>w=.sl 0 0 ys.length none∧s'=Aj St0 [.row 60 (Ei ys)]):=by
  refine C.abs (C.of_G hE g37 ?_);conv=>whnf
  refine AD rfl hs' ?_;conv=>whnf
  refine Aw hE ys.length (fun i=>[(3,N6 i 0),(6,v),(7,.int .i64 (ys.length:Int)),(8,.int .i64 (i:Int))]) (fun i=>match i with|0=>[]|i+1=>[.row 60 (Ei (ys.take (i+1)))]) (fun _=>True) trivial (Abs.tells (rs:=[]) .a) ?_
  intro i hi _
  by_cases hlt:i<ys.length
  ·obtain ⟨y,_,r,hy,⟨rfl,hyo⟩,hd⟩:=hnth i hlt
   have hy1:=h1 y (Zp5 hy)
   have htw:∀ (Q:AV->St->Prop) s,Q (.agg (Aq y).c) s->ESc e 66 [.agg y.c] s Q:=fun Q s k=>Fn.u (F:=twF) h66 (y,()) ⟨_,_,rfl,⟨rfl,hyo⟩,rfl⟩ hy1 k
   have hst:Ei (ys.take (i+1))=Ei (ys.take i)++(Aq y).c:=by
    rw [List.take_add_one,hy];unfold Ei;rw [List.flatMap_append];simp
   have hfi:=XB (ys:=ys.take (i+1)) fun y hy=>hoks y (Zqq hy)
   have hli:=WG (ys.take i)
   rw [Zp9,Nat.min_eq_left hi] at hli
   obtain ⟨q1,q2,q3,hq⟩:∃ q1 q2 q3,(Aq y).c=[q1,q2,q3]:=⟨_,_,_,rfl⟩
   rw [hq] at htw hst
   have hyc:y.c=[y.bv,y.wv,.bool y.dead]:=rfl
   rw [hyc] at hd htw
   rcases i with _|i
   ·conv=>whnf
    repeat' (first|((first|refine Ar hs' hlt hd ?_|refine A8 (cs:=[y.bv,y.wv,.bool y.dead]) rfl ?_|refine htw _ _ ?_|refine CO (m:=1) ?_|refine Ac ?_|refine ⟨rfl,?_⟩);conv=>whnf)|refine Aa ?_ ?_|(intro _;first|omega|conv=>whnf))
    refine ⟨hlt,trivial,Abs.tells (rs:=[2]) ⟨by decide,⟨r9,t9,r9,r9,trivial⟩,⟨⟨Bj hfi,?_⟩,trivial⟩⟩⟩
    show _=some (Bw _ (AObj.row 60 (Ei (ys.take (0+1)))))
    rw [AU hfi,hst];rfl
   ·have hil:i+1≤1000:=by omega
    conv=>whnf
    repeat' (first|((first|refine Ar hs' hlt hd ?_|refine A8 (cs:=[y.bv,y.wv,.bool y.dead]) rfl ?_|refine htw _ _ ?_|refine C6 (m:=1) (n:=i+1) (old:=Ei (ys.take (i+1))) rfl rfl rfl rfl hli rfl (by decide) (by omega) ?_|refine Ac ?_|refine ⟨rfl,?_⟩);conv=>whnf)|refine Aa ?_ ?_|(intro _;first|omega|conv=>whnf))
    refine ⟨hlt,trivial,Abs.tells (rs:=[3]) ⟨by decide,⟨r9,t9,r9,r9,trivial⟩,⟨⟨Bj hfi,?_⟩,trivial⟩⟩⟩
    show _=some (Bw _ (AObj.row 60 (Ei (ys.take (i+1+1)))))
    rw [AU hfi,hst];rfl
  ·obtain ⟨m,hm⟩:∃ m,ys.length=m+1:=⟨ys.length-1,by omega⟩
   have him:i=m+1:=by omega
   subst him
   have htk:ys.take (m+1)=ys:=Zps (by omega)
   dsimp only
   rw [htk]
   conv=>whnf
   repeat' (first|refine Aa ?_ ?_|(intro _;first|omega|conv=>whnf))
   refine ⟨[0],⟨by decide,⟨⟨rfl,?_⟩,trivial⟩,⟨o9 hf0,trivial⟩⟩⟩
   show _=some (AV.sl 0 0 ys.length none)
   rw [hm];rfl
 refine (C.frame (l:=[.row 60 (Ei ys)]) (u:=.sl 0 0 ys.length none) (by show (AM.hf v && true)=true;rw [hvf];rfl) ?_ (.inl (by simp)) key ?_ s).mono ?_
 ·intro o ho;simp at ho;subst ho;rfl
 ·intro i o h;rcases i with _|i <;> simp at h;subst h;rfl
 ·rintro w s' ⟨rfl,rfl⟩
  refine ⟨?_,?_⟩
  ·show AV.sl (0+s.next) 0 _ none=_;rw [Zpy]
  ·show Aj s [Bw _ (.row 60 (Ei ys))]=_
   rw [AU hf0];rfl
abbrev Act:=Int×Nat×Int×List Nat
def actC:Ce Act:=i64C.pr (Ce.u8.pr (i64C.pr bytC))
variable {d:Nat}{b:List Nat}
theorem Pk (h:actC.r (k,d,a,b) l):∃ v,l=[.int .i64 k,.int .u8 (d:Int),.int .i64 a,v]∧Ab k∧d<256∧Ab a∧Ls Ce.u8 b v:=by
 obtain ⟨_,_,rfl,⟨rfl,h1⟩,_,_,rfl,⟨rfl,h2⟩,_,_,rfl,⟨rfl,h3⟩,v,rfl,h4⟩:=h
 exact ⟨v,rfl,wf_i64 h1,h2,wf_i64 h3,h4⟩
def Zpa:AC:=match Qu with|.mk c _=>c
theorem Zk5 (h138:Inl e 138 Zpa [.tmp 2]) (h44:Con e 44 dskF.O):Fj e dkC AV.agg 138 .nil (fun _ xs=>∀ d ∈ xs,BG d) (fun (_:Unit) d=>¬Cy d):=by
 rintro c q xs x l rfl hok hmem hx Q y n
 have hd:=fun (Q:AV->St->Prop) s a b=>RU (e:=e) h44 hx (hok x hmem) Q s a b
 have hlen:=dkC.len hx
 obtain ⟨bs,ws,dd⟩:=x
 obtain ⟨bv,wv,rfl,-,-⟩:=GI hx
 refine ECall.inl h138.O h138.G ?_;conv=>whnf
 repeat' (first|(refine hd _ _ (fun q=>?_) (fun q=>?_) <;> conv=>whnf)|refine Al ?_ ?_|(intro _;first|omega|conv=>whnf))
 all_goals first
  | exact n (fun h=>h q) _
  | exact y q _
noncomputable def ix138:Fn (List Dk×Unit×Unit):=CF dkC 138 .nil (fun _ xs=>∀ d ∈ xs,BG d) fun _ d=>¬Cy d
def PI (D:List Dk):Prop:=(1≤D.length∧D.length≤17)∧∀ d ∈ D,Cy d
noncomputable def dvsF:Fn (List Dk×Unit):=cF (.v dkC.sl .nil) (fun x=>∀ d ∈ x.1,BG d) fun x=>PI x.1
theorem Zj5 (hE:EM P e) (h139:Inl e 139 YB [.tmp 4]) (h182:Con e 182 (relS (CC ix138.R))):OvOk P 83 dvsF.O:=by
 refine JG hE g83 ?_
 rintro ⟨D,_⟩ _ ⟨v,_,rfl,⟨_,e0,hL⟩,rfl⟩ hsm K t f
 cases e0
 dsimp only at t f hL hsm
 obtain ⟨cs,hs',hl,-⟩:=hL.nth
 have hcn:=fun (Q:AV->St->Prop) s y n=>Znm (k:=Q) (s:=s) h139 (p:=fun d:Dk=>¬Cy d) (xs:=D) (fun Q k=>@I5 _ ix138 e 182 s Q h182 v 138 [] [] (D,(),()) ⟨_,_,rfl,⟨_,rfl,hL⟩,_,_,rfl,rfl,rfl⟩ hsm .nil rfl k) y n
 unfold PI at t f
 change VW P e 0 _ (An [v] 0 .lf) St0 none [] _
 conv=>whnf
 repeat' (first|(refine hcn _ _ (fun q=>?_) (fun q=>?_) <;> conv=>whnf)|(refine AD rfl hs' ?_;conv=>whnf)|refine Aa ?_ ?_|refine Ax ?_ ?_|(intro _;first|omega|conv=>whnf))
 all_goals first
  | exact f (fun h=>by omega) _
  | exact f (fun h=>by obtain ⟨d,hd,hn⟩:=q;exact hn (h.2 d hd)) _
  | exact t ⟨by omega,fun d hd=>Classical.byContradiction fun h=>q ⟨d,hd,h⟩⟩ _
theorem G5 {k:AV->St->Prop}{x y:AO}{kd:Nat}{neg:Bool}{a b:AV}{r:Bool}(hx:ev x t=.some a) (hy:ev y t=.some b) (h:JQ kd a b=some r) (hk:k (.bool (DF neg r)) s):EPrim (.eqb kd neg x y) t s k:=by
 refine EPrim.mk (v:=.bool (DF neg r)) (s':=s) (fun e rec=>?_) hk
 show wth x t _=_;unfold wth;rw [hx]
 show wth y t _=_;unfold wth;rw [hy]
 show (Option.rec .fail (fun c=>.ok (.bool (DF neg c)) s) (JQ kd a b):RV)=_
 rw [h]
def DG (D:List Dk):Act->Prop
 | (k,d,a,b)=>(0≤k∧k<D.length)∧(1≤d∧d≤3)∧(d=3->a=0∧b.length=0)∧(d≠3->(0≤a∧∀ x,D[k.toNat]?=some x->a<x.1.length)∧BM b)
noncomputable def amyF:Fn (Act×List Dk×Unit):=bF (.g actC (.v dkC.sl .nil)) (fun _=>True) fun x=>DG x.2.1 x.1
def T9:AC:=match a38 with|.mk c _=>c
theorem Zli (hE:EM P e) (h38:Inl e 38 T9 [.tmp 2]):OvOk P 84 amyF.O:=by
 refine Bv hE g84 ?_
 rintro ⟨⟨k,d,a,b⟩,D,_⟩ _ ⟨_,_,rfl,hg,v,_,rfl,⟨_,e0,hL⟩,rfl⟩-K t f
 cases e0
 dsimp only at t f hL
 obtain ⟨u,rfl,o1,o2,o3,hb⟩:=Pk hg
 obtain ⟨bs,hbs,hbl,-⟩:=hb.nth
 obtain ⟨cs,hs',hl,hn⟩:=hL.nth
 unfold DG at t f
 dsimp only at t f
 unfold Ab at o1 o3
 unfold BM at t f
 change VW P e 0 _ (An [.agg [.int .i64 k,.int .u8 (d:Int),.int .i64 a,u],v] 0 .lf) St0 none [] _
 by_cases hk:0≤k∧k<D.length
 ·obtain ⟨⟨xb,xw,xd⟩,_,r,hx,hxr,hd⟩:=hn k.toNat (by omega)
  obtain ⟨bv,wv,rfl,h1,-⟩:=GI hxr
  obtain ⟨ys,k1,l1,-⟩:=h1.nth
  have hkn:k=(k.toNat:Nat):=by omega
  have hkl:k.toNat<D.length:=by omega
  have hq:(∀ x:Dk,D[k.toNat]?=some x->a<x.1.length)↔a<xb.length:=by
   rw [hx]
   exact ⟨fun h=>h _ rfl,fun h x e=>by cases e;exact h⟩
  rw [hq] at t f
  rcases d with _|_|_|_|d
  all_goals
   conv=>whnf
   repeat' (first|((first|refine AD rfl hs' ?_|refine ESc.inl h38 ?_|refine G5 rfl rfl rfl ?_|refine NY rfl rfl (by omega) (by omega) ?_|refine Am hbs ?_|refine As ?_|refine Cj rfl hs' rfl hkn hkl hd ?_|refine Am k1 ?_|refine Cp ?_);conv=>whnf)|refine Aa ?_ ?_|refine AR ?_ ?_|refine Ap ?_ ?_|(intro _;first|omega|conv=>whnf))
   all_goals first
    | exact t (by omega) _
    | exact f (by omega) _
 ·conv=>whnf
  repeat' (first|(refine AD rfl hs' ?_;conv=>whnf)|refine Aa ?_ ?_|refine AR ?_ ?_|(intro _;first|omega|conv=>whnf))
  all_goals exact f (fun q=>hk q.1) _
open Classical in
noncomputable def CG (l:List Act) (D:List Dk):Int:=if PI D then (if 1024<l.length then 4 else if ∀ a ∈ l,DG D a then 0 else 2) else 8
noncomputable def achF:Fn (List Act×List Dk×Unit):=⟨.v actC.sl (.v dkC.sl .nil),fun x=>∀ d ∈ x.2.1,BG d,fun x=>.int .i64 (CG x.1 x.2.1)⟩
theorem Zlj (hE:EM P e) (h83:Con e 83 dvsF.O) (h84:Con e 84 amyF.O):OvOk P 36 achF.O:=by
 refine B3 g36.b ?_
 rintro ⟨l,D,_⟩ _ ⟨w,_,rfl,⟨_,e1,hA⟩,v,_,rfl,⟨_,e0,hL⟩,rfl⟩ hsm
 cases e0
 cases e1
 dsimp only at hA hL hsm
 have hvf:=hL.hf
 have hwf:=hA.hf
 obtain ⟨cs,hs',hl,hn⟩:=hA.nth
 refine ⟨rfl,C.of_G hE g36 ?_⟩
 have hdv:=fun (Q:AV->St->Prop) s a b=>@cF.u _ _ _ _ e 83 s Q [v] h83 (D,()) ⟨_,_,rfl,⟨_,rfl,hL⟩,rfl⟩ hsm a b
 have hmy:=fun (x:Act) (l:List AV) (hx:actC.r x l) (Q:AV->St->Prop) s a b=>@bF.u _ _ _ _ e 84 s Q [.agg l,v] h84 (x,D,()) ⟨_,_,rfl,hx,_,_,rfl,⟨_,rfl,hL⟩,rfl⟩ trivial a b
 have fin:∀ st n,CG l D=n->Frz st (.int .i64 n) (achF.out (l,D,())):=by
  rintro st n rfl;exact .plain _ rfl
 generalize achF.out _=O at fin ⊢
 unfold CG at fin
 dsimp only at hdv hmy
 generalize PI D=A1 at *
 change VW P e 0 _ (An [w,v] 0 .lf) St0 none [] _
 conv=>whnf
 repeat' (first|(refine hdv _ _ (fun q1=>?_) (fun q1=>?_) <;> conv=>whnf)|(refine AD rfl hs' ?_;conv=>whnf)|refine Ax ?_ ?_|refine Al ?_ ?_|(intro _;first|omega|conv=>whnf))
 ·exact fin _ _ (by rw [Zpn q1,Zpn (by omega)])
 ·have hle:¬1024<l.length:=by omega
  refine Aw hE l.length (fun i=>[(1,v),(16,w),(17,.int .i64 (l.length:Int)),(18,.int .i64 (i:Int))]) (fun _=>[]) (fun i=>∀ j<i,∀ a,l[j]?=some a->DG D a) (fun k h=>by omega) (Abs.tells (rs:=[]) .a) ?_
  intro i hi hI
  by_cases hlt:i<l.length
  ·obtain ⟨x,c,r,hx,hxr,hd⟩:=hn i hlt
   have hmy:=hmy x c hxr
   have hth:DG D x->∀ j<i+1,∀ a,l[j]?=some a->DG D a:=fun g=>AZ hI fun y e=>by rw [hx] at e;cases e;exact g
   have hfh:¬DG D x->∀ st,Frz st (.int .i64 2) O:=fun h st=>fin _ _ (by rw [Zpn q1,Zpr hle,Zpr fun q=>h (q x (Zp5 hx))])
   obtain ⟨k,d,a,b⟩:=x
   obtain ⟨u,rfl,-⟩:=Pk hxr
   conv=>whnf
   repeat' (first|(refine hmy _ _ (fun q=>?_) (fun q=>?_) <;> conv=>whnf)|((first|refine Ar hs' hlt hd ?_|refine A8 (cs:=[.int .i64 k,.int .u8 (d:Int),.int .i64 a,u]) rfl ?_|refine Ac ?_|refine Au ?_|refine Av ?_|refine ⟨rfl,?_⟩);conv=>whnf)|refine Aa ?_ ?_|(intro _;first|omega|conv=>whnf))
   ·exact ⟨hlt,hth q,Abs.tells (rs:=[]) .a⟩
   ·exact hfh q _
  ·conv=>whnf
   repeat' (first|refine Aa ?_ ?_|(intro _;first|omega|conv=>whnf))
   exact fin _ _ (by rw [Zpn q1,Zpr hle,Zpn (XL fun j hj=>hI j (by omega))])
 ·exact fin _ _ (by rw [Zpr q1])
def Ae (y:DK):Dk:=(y.bs,y.ws.map (fun w=>(w.at_,w.b)),y.dead)
variable {y:DK}
theorem KP (h:y.any):DKof (Ae y) y:=⟨h,rfl,rfl,rfl⟩
variable {u:AV}
theorem BAt.ls (h:BAt u b) (hb:b.length≤9223372036854775807):Ls Ce.u8 b u:=by
 have e:∀ b:List Nat,(b.map fun (x:Nat)=>[AV.int .u8 (x:Int)]).flatten=Ad b:=by
  intro b
  induction b with
  | nil=>rfl
  | cons x b ih=>rw [Zqz,List.flatten_cons,ih];rfl
 refine ⟨b.map fun (x:Nat)=>[.int .u8 (x:Int)],?_,by rw [e];exact h.1,hb⟩
 refine EB (by simp) fun i x l h1 h2=>?_
 rw [Zqi,h1] at h2
 cases h2
 exact ⟨rfl,h.2 x (Zp5 h1)⟩
theorem Y7 (h:dkV.r y l):dkC.r (Ae y) l:=by
 obtain ⟨rfl,h⟩:=h
 refine ⟨[y.bv],_,rfl,⟨y.bv,rfl,y.us.map fun u=>[u],?_,?_,?_⟩,[y.wv],_,rfl,⟨y.wv,rfl,y.ws.map WR.c,?_,?_,?_⟩,rfl⟩
 ·refine EB (by rw [Zpq,h.a.bs.length];rfl) fun i b l h1 h2=>?_
  rw [Zqi] at h2
  cases hu:y.us[i]? with
  | none=>rw [hu] at h2;cases h2
  | some u=>
   rw [hu] at h2
   cases h2
   obtain ⟨b',h3,h4⟩:=h.a.bs.get hu
   have h1:y.bs[i]?=some b:=h1
   rw [h1] at h3
   cases h3
   exact ⟨u,rfl,h4.ls (by have:=h.b b (Zp5 h1);omega)⟩
 ·have e:∀ us:List AV,(us.map fun u=>[u]).flatten=us:=fun us=>by
   induction us with
   | nil=>rfl
   | cons u us ih=>rw [Zqz,List.flatten_cons,ih];rfl
  rw [e,show (Ae y).1.length=y.us.length from h.a.bs.length.symm]
  exact h.a.bl
 ·have:=h.n
  rw [show (Ae y).1.length=y.us.length from h.a.bs.length.symm];omega
 ·refine EB (by simp [Ae]) fun i w l h1 h2=>?_
  rw [Zqi] at h2
  have h1:(y.ws.map fun w=>(w.at_,w.b))[i]?=some w:=h1
  rw [Zqi] at h1
  cases hu:y.ws[i]? with
  | none=>rw [hu] at h2;cases h2
  | some u=>
   rw [hu] at h1 h2
   cases h1
   cases h2
   have hm:=Zp5 hu
   exact ⟨[.int .i64 u.at_],[u.u],rfl,⟨rfl,Bf (h.a.ws u hm).at_⟩,u.u,rfl,(h.a.ws u hm).b.ls (by have:=h.w u hm;omega)⟩
 ·have e:(y.ws.map WR.c).flatten=Ag y.ws:=by unfold Ag;rw [List.flatMap_def]
  rw [e,show (Ae y).2.1.length=y.ws.length from Zpq ..]
  exact h.a.wl
 ·have:=h.m
  rw [show (Ae y).2.1.length=y.ws.length from Zpq ..];omega
theorem All2.map {α β γ:Type}{R:α->γ->Prop}{S:β->γ->Prop}{f:α->β}(h:∀ a c,R a c->S (f a) c):∀ {l:List α}{m:List γ},All2 R l m->All2 S (l.map f) m
 | _,_,.nil=>.nil
 | _,_,.cons h1 h2=>.cons (h _ _ h1) (All2.map h h2)
theorem MQ (h:Ls dkV ys v):Ls dkC (ys.map Ae) v:=by
 obtain ⟨ls,a,s,hn⟩:=h
 refine ⟨ls,a.map fun _ _ h=>Y7 h,?_,by rw [Zpq];exact hn⟩
 rw [Zpq];exact s
theorem Zol {D:List Dk}(h:Ls dkC D v) (hs:∀ d ∈ D,BG d):∃ ys,Ls dkV ys v∧D=ys.map Ae:=by
 obtain ⟨ls,a,s,hn⟩:=h
 have key:∀ {D:List Dk}{ls:List (List AV)},All2 dkC.r D ls->(∀ d ∈ D,BG d)->∃ ys,All2 dkV.r ys ls∧D=ys.map Ae:=by
  intro D
  induction D with
  | nil=>intro ls h _;cases h;exact ⟨[],.nil,rfl⟩
  | cons d D ih=>
   intro ls h hs
   cases h with
   | cons h1 h2=>
    obtain ⟨ys,g1,g2⟩:=ih h2 fun x hx=>hs x (by simp [hx])
    obtain ⟨y,hy,rfl⟩:=IK h1
    refine ⟨y::ys,.cons ⟨rfl,KI hy (hs d (by simp))⟩ g1,?_⟩
    rw [Zqz,← g2]
    congr 1
    obtain ⟨b,w,dd⟩:=d
    have h1:=hy.b
    have h2:=hy.w
    have h3:=hy.d
    dsimp only at h1 h2 h3
    unfold Ae
    rw [h1,h2,h3]
 obtain ⟨ys,g1,g2⟩:=key a hs
 refine ⟨ys,⟨ls,g1,?_,?_⟩,g2⟩
 ·have:ys.length=D.length:=by rw [g2,Zpq]
  rw [this];exact s
 ·have:ys.length=D.length:=by rw [g2,Zpq]
  omega
theorem Zne {x:DKW}(hx:x.ok) (h:EA x=0):(FP x).ok:=by
 have hw:BP x.d x.a x.b=0:=by unfold EA at h;split at h <;> first|assumption|(rename_i hn;exact absurd h hn)
 obtain ⟨q1,q2,q3,q4⟩:=JJ hw
 have hbl:=Iy q3
 obtain ⟨p1,p2⟩:=OW hbl hx.b.2
 have hm:=hx.d.m
 have h24:x.d.ws.length≤1024:=(dskB_iff.1 q1).1.2.2
 refine ⟨⟨?_,K2 hx.d.a.bs,?_,fun w hw=>?_⟩,?_,?_,hx.d.b,fun w hw=>?_⟩
 ·exact .inr (.inr ⟨none,by show AV.fz x.d.us.length none (x.d.us.map Af)=.fz (x.d.us.map Af).length none (x.d.us.map Af);rw [Zpq],(Zqm _).symm⟩)
 ·have:∀ L:List WR,(Ag L).length=L.length*2:=fun L=>by
   induction L with
   | nil=>rfl
   | cons w L ih=>rw [Fy,Zpx,ih,Zqd];show 2+_=_;omega
  refine .inr (.inr ⟨none,?_,this _⟩)
  show AV.fz (x.d.ws.length+1) none (Ag (E9 x))=.fz (E9 x).length none (Ag (E9 x))
  unfold E9
  rw [Zpx,Zpq];rfl
 ·rcases Zqb.1 hw with hw|hw
  ·obtain ⟨v,hv,rfl⟩:=Zqj.1 hw
   exact Iv (hx.d.a.ws v hv)
  ·rw [List.mem_singleton.1 hw]
   exact ⟨hx.a,p1⟩
 ·show (x.d.us.map Af).length<_;rw [Zpq];exact hx.d.n
 ·show (E9 x).length<_;unfold E9;rw [Zpx,Zpq];simp;omega
 ·rcases Zqb.1 hw with hw|hw
  ·obtain ⟨v,hv,rfl⟩:=Zqj.1 hw
   exact hx.d.w v hv
  ·rw [List.mem_singleton.1 hw]
   show (Ah x.b).length<_
   omega
def uB (b:List Nat):AV:=if b.length=0 then .nils else .fz b.length none (Ad b)
theorem Zn8 (h:∀ x ∈ b,x<256):BAt (uB b) b:=by
 unfold uB
 split
 ·rename_i h0
  rw [Zqh.1 h0]
  exact ⟨.inl ⟨rfl,rfl,rfl⟩,fun x hx=>by cases hx⟩
 ·exact ⟨.inr (.inr ⟨none,rfl,by rw [B2];exact (Zqm _).symm⟩),h⟩
def CV (y:DK) (a:Int) (b:List Nat):DKW:=⟨y,a,uB b,b⟩
theorem Zj4 {x:DKW}(hx:x.ok) (h:EA x=0):AX (FP x)=true:=by
 have hw:BP x.d x.a x.b=0:=by unfold EA at h;split at h <;> first|assumption|(rename_i hn;exact absurd h hn)
 obtain ⟨q1,q2,q3,q4⟩:=JJ hw
 have hbl:=Iy q3
 obtain ⟨p1,p2⟩:=OW hbl hx.b.2
 obtain ⟨⟨r1,r2,r3⟩,r4,r5,r6⟩:=dskB_iff.1 q1
 have h24:x.d.ws.length≠1024:=fun e=>by unfold EA at h;rw [Zpn hw,Zpn e] at h;cases h
 have hus:(FP x).us.length=x.d.us.length:=Zpq ..
 refine dskB_iff.2 ⟨⟨by omega,by omega,?_⟩,r4,fun w hwm=>?_,fun hd=>?_⟩
 ·show (E9 x).length≤_
  unfold E9;rw [Zpx,Zpq];simp;omega
 ·rw [hus]
  rcases Zqb.1 hwm with hwm|hwm
  ·obtain ⟨v,hv,rfl⟩:=Zqj.1 hwm
   exact r5 v hv
  ·rw [List.mem_singleton.1 hwm]
   unfold Bt
   simp only [Zq4,Zqp]
   refine ⟨⟨by omega,by omega⟩,?_⟩
   show Ba (Ah x.b).length=false
   rw [p2];rfl
 ·have:x.d.dead=true:=hd
  rw [q4] at this;cases this
def C5 (y:DK):Act->Int×DK
 | (_,k,a,b)=>if y.dead=true then (0,y) else if k=1 then (EA (CV y a b),FP (CV y a b)) else if k=2 then (BP y a b,EW (CV y a b)) else (GW y,D7 y)
def DP (Y:List DK) (a:Act):Int×List DK:=match Y[a.1.toNat]? with
 | none=>(0,Y)
 | some y=>((C5 y a).1,Y.set a.1.toNat (C5 y a).2)
def AB (Y:List DK) (l:List Act):Nat->List DK
 | 0=>Y
 | i+1=>match l[i]? with
  | none=>AB Y l i
  | some a=>(DP (AB Y l i) a).2
def AW (Y:List DK) (l:List Act):Nat->Int
 | 0=>0
 | i+1=>if AW Y l i≠0 then AW Y l i else match l[i]? with
  | none=>0
  | some a=>(DP (AB Y l i) a).1
theorem LW {Y:List DK}{l:List Act}{i:Nat}(h:AW Y l i≠0):∀ n,i≤n->AW Y l n=AW Y l i
 | 0,hn=>by rw [show i=0 by omega]
 | n+1,hn=>by
  rcases Nat.lt_or_eq_of_le hn with hn|rfl
  ·have:=LW h n (by omega)
   show (if AW Y l n≠0 then AW Y l n else _)=_
   rw [Zpn (by rw [this];exact h),this]
  ·rfl
def Bb (Y:List DK):List AV:=Y.flatMap DK.c
theorem OG:∀ ys:List DK,(Bb ys).length=ys.length*3
 | []=>rfl
 | y::ys=>by unfold Bb;rw [List.flatMap_cons,Zpx,show (ys.flatMap DK.c).length=ys.length*3 from OG ys,Zqd];show 3+_=_;omega
theorem Hx (h:∀ y ∈ ys,y.ok):hfs (Bb ys)=true:=by
 refine hfs_iff.2 fun v hv=>?_
 obtain ⟨y,hy,hv⟩:=List.mem_flatMap.1 hv
 have e:AM.hf (.agg y.c)=true:=DK.hf (h y hy).a
 have e:hfs y.c=true:=by simpa [AM.hf] using e
 exact hfs_iff.1 e v hv
theorem Rs:∀ {ys:List DK}{i:Nat}{y:DK},ys[i]?=some y->(Bb ys).drop (i*3)=y.c++Bb (ys.drop (i+1))
 | [],_,_,h=>by cases h
 | x::ys,0,y,h=>by cases h;rfl
 | x::ys,i+1,y,h=>by
  show (x.c++Bb ys).drop ((i+1)*3)=_
  rw [show (i+1)*3=x.c.length+i*3 by show _=3+_;omega,List.drop_append,Nat.add_sub_cancel_left,Rs (ys:=ys) h,Zqf (show x.c.length≤x.c.length+i*3 by omega)];rfl
theorem RS:∀ {ys:List DK}{i:Nat}{y:DK},i<ys.length->(Bb ys).take (i*3)++y.c++(Bb ys).drop (i*3+3)=Bb (ys.set i y)
 | [],_,_,h=>by cases h
 | x::ys,0,y,h=>rfl
 | x::ys,i+1,y,h=>by
  show (x.c++Bb ys).take ((i+1)*3)++y.c++(x.c++Bb ys).drop ((i+1)*3+3)=x.c++Bb (ys.set i y)
  rw [show (i+1)*3=x.c.length+i*3 by show _=3+_;omega,List.take_append,Zrg,List.drop_append,Zps (by omega),Nat.add_sub_cancel_left,List.append_assoc,List.append_assoc,← List.append_assoc (List.take _ _),← RS (ys:=ys) (i:=i) (y:=y) (by simpa using h),List.append_assoc]
  rw [Zqf (show x.c.length≤x.c.length+(i*3+3) by omega),List.nil_append,Nat.add_sub_cancel_left]
  simp only [List.append_assoc]
theorem Zhc (ys:List DK):Ei ys=Bb (ys.map Aq):=by unfold Ei Bb;rw [List.flatMap_map]
def E8 (Y:List DK):Prop:=∀ y ∈ Y,y.ok∧AX y=true
theorem So (hy:y.ok) (ha:Ab a) (hb:∀ x ∈ b,x<256) (hs:BM b):(CV y a b).ok:=⟨hy,ha,Zn8 hb,by unfold BM at hs;show b.length<_;omega⟩
theorem Zez (hy:y.ok∧AX y=true) (ha:Ab a) (hb:∀ x ∈ b,x<256) (hs:d≠3->BM b) (hd:1≤d∧d≤3) (he:(C5 y (k,d,a,b)).1=0):((C5 y (k,d,a,b)).2.ok∧AX (C5 y (k,d,a,b)).2=true)∧(C5 y (k,d,a,b)).2.us.length=y.us.length:=by
 unfold C5 at he ⊢
 dsimp only at he ⊢
 split
 ·exact ⟨hy,rfl⟩
 ·rename_i hdd
  rw [Zpr hdd] at he
  by_cases h1:d=1
  ·rw [Zpn h1] at he ⊢
   have hx:=So hy.1 ha hb (hs (by omega))
   exact ⟨⟨Zne hx he,Zj4 hx he⟩,Zpq ..⟩
  ·rw [Zpr h1] at he ⊢
   by_cases h2:d=2
   ·rw [Zpn h2] at he ⊢
    have hx:=So hy.1 ha hb (hs (by omega))
    exact ⟨⟨Xn hx he,Zf6 hx he⟩,Rp _⟩
   ·rw [Zpr h2] at he ⊢
    exact ⟨⟨SA hy.1,Zjp hy.1 hy.2⟩,Xo _⟩
theorem Md {ys Y0:List DK}{l:List Act}(hY:E8 Y0) (hl:∀ x ∈ l,Ab x.2.2.1∧(∀ z ∈ x.2.2.2,z<256)∧DG (ys.map Ae) x):∀ i,AW Y0 l i=0->E8 (AB Y0 l i)∧(AB Y0 l i).length=Y0.length∧∀ (j:Nat) (y:DK),(AB Y0 l i)[j]?=some y->∃ z,Y0[j]?=some z∧y.us.length=z.us.length
 | 0,_=>⟨hY,rfl,fun j y h=>⟨y,h,rfl⟩⟩
 | i+1,he=>by
  have h0:AW Y0 l i=0:=Classical.byContradiction fun h=>by
   have:=LW h (i+1) (by omega)
   rw [this] at he;exact h he
  obtain ⟨g1,g2,g3⟩:=Md hY hl i h0
  have he:(match l[i]? with|none=>0|some a=>(DP (AB Y0 l i) a).1)=0:=by
   have he:(if AW Y0 l i≠0 then AW Y0 l i else match l[i]? with|none=>0|some a=>(DP (AB Y0 l i) a).1)=0:=he
   rw [Zpr (by rw [h0];decide)] at he
   exact he
  rw [show AB Y0 l (i+1)=match l[i]? with|none=>AB Y0 l i|some a=>(DP (AB Y0 l i) a).2 from rfl]
  cases hx:l[i]? with
  | none=>exact ⟨g1,g2,g3⟩
  | some x=>
   rw [hx] at he
   dsimp only at he ⊢
   obtain ⟨p1,p2,p3⟩:=hl x (Zp5 hx)
   generalize AB Y0 l i=Y at *
   unfold DP at he ⊢
   cases hy:Y[x.1.toNat]? with
   | none=>exact ⟨g1,g2,g3⟩
   | some y=>
    rw [hy] at he
    dsimp only at he ⊢
    have hgy:=g1 y (Zp5 hy)
    obtain ⟨k,d,a,b⟩:=x
    unfold DG at p3
    obtain ⟨q1,q2⟩:=Zez hgy p1 p2 (fun h=>(p3.2.2.2 h).2) p3.2.1 he
    refine ⟨fun z hz=>?_,by rw [List.length_set];exact g2,fun j z hz=>?_⟩
    ·rcases List.mem_or_eq_of_mem_set hz with h|rfl
     ·exact g1 z h
     ·exact q1
    ·by_cases hj:k.toNat=j
     ·subst hj
      dsimp only at hy hz
      rw [List.getElem?_set_self (Zpk.1 hy).1] at hz
      cases hz
      obtain ⟨w,hw,hw2⟩:=g3 _ _ hy
      exact ⟨w,hw,by rw [q2];exact hw2⟩
     ·dsimp only at hz
      rw [List.getElem?_set_ne hj] at hz
      exact g3 j z hz
noncomputable def Fk (ys:List DK) (l:List Act) (n:Int):AV:=if CG l (ys.map Ae)=0 then (if 0≤n∧n≤l.length then (if AW (ys.map Aq) (l.take n.toNat) n.toNat=0 then .tup [.fz ys.length none (Bb (AB (ys.map Aq) (l.take n.toNat) n.toNat)),.int .i64 0] else .tup [.nils,.int .i64 (AW (ys.map Aq) (l.take n.toNat) n.toNat)]) else .tup [.nils,.int .i64 2]) else .tup [.nils,.int .i64 (CG l (ys.map Ae))]
def Zs:AC:=match a85 with|.mk c _=>c
def Zr:AC:=match a86 with|.mk c _=>c
def Zq:AC:=match a87 with|.mk c _=>c
theorem WH {x:DK}(h:AX x=true):AX (Aq x)=true:=by
 obtain ⟨r,r4,r5,r6⟩:=dskB_iff.1 h
 have hus:(Aq x).us.length=x.us.length:=Zpq ..
 have hws:(Aq x).ws.length=x.ws.length:=Zpq ..
 refine dskB_iff.2 ⟨by omega,r4,fun w hw=>?_,fun hd=>?_⟩
 ·obtain ⟨v,hv,rfl⟩:=Zqj.1 hw
  rw [hus];exact r5 v hv
 ·have:=r6 hd
  exact ⟨by omega,this.2⟩
theorem YC {l:List Act}(hok:∀ y ∈ ys,y.ok) (h:CG l (ys.map Ae)=0):(1≤ys.length∧ys.length≤17)∧E8 ys∧(∀ a ∈ l,DG (ys.map Ae) a):=by
 unfold CG at h
 split at h
 ·rename_i hd
  split at h
  ·cases h
  ·split at h
   ·rename_i hm
    refine ⟨by have:=hd.1;rw [Zpq] at this;exact this,fun y hy=>⟨hok y hy,?_⟩,hm⟩
    have:=hd.2 (Ae y) (Zqj.2 ⟨y,hy,rfl⟩)
    rw [← KO (KP (hok y hy).a)] at this
    exact this
   ·cases h
 ·cases h
def JM (ys:List DK) (l:List Act) (n:Int) (u:AV) (st:St):Prop:=(Fk ys l n=u∧∃ z,u=.tup [.nils,.int .i64 z])∨(CG l (ys.map Ae)=0∧(0≤n∧n≤l.length)∧AW (ys.map Aq) (l.take n.toNat) n.toNat=0∧E8 (AB (ys.map Aq) (l.take n.toNat) n.toNat)∧u=.tup [.sl 0 0 ys.length none,.int .i64 0]∧st.get 0=some (.row 60 (Bb (AB (ys.map Aq) (l.take n.toNat) n.toNat))))
set_option maxHeartbeats 2000000 in
theorem Zob (hE:EM P e) (h36:Con e 36 achF.O) (h37:Con e 37 (relS Pz)) (h38:Inl e 38 T9 [.tmp 2]) (h63:Con e 63 fuaF.O) (h85:Inl e 85 Zs [.cells 4 3,.tmp 5]) (h86:Inl e 86 Zr [.cells 4 3,.tmp 5]) (h87:Inl e 87 Zq [.cells 4 3,.tmp 5]) (h140:Con e 140 dwF.O) (h141:Con e 141 fluF.O)  {l:List Act}{n:Int}{w:AV}(hL:Ls dkV ys v) (hA:Ls actC l w):C P 11 [v,w,.int .i64 n] St0 (JM ys l n):=by
 have hvf:=hL.hf
 have hwf:=hA.hf
 have hoks:∀ y ∈ ys,y.ok:=fun y hy=>by obtain ⟨l,-,h⟩:=hL.mem hy;exact h
 obtain ⟨cs,hs',hl',-⟩:=hA.nth
 refine C.of_G hE g11 ?_
 have hch:∀ (Q:AV->St->Prop) s,Q (.int .i64 (CG l (ys.map Ae))) s->ESc e 36 [w,v] s Q:=fun Q s k=>Fn.u (F:=achF) h36 (l,ys.map Ae,()) ⟨_,_,rfl,⟨_,rfl,hA⟩,_,_,rfl,⟨_,rfl,MQ hL⟩,rfl⟩ (fun d hd=>by
  obtain ⟨y,hy,rfl⟩:=Zqj.1 hd
  have h1:=hoks y hy
  refine ⟨by have h2:=h1.n;rw [h1.a.bs.length] at h2;exact h2,by show (List.map _ y.ws).length<_;rw [Zpq];exact h1.m,h1.b,fun w hw=>?_⟩
  obtain ⟨x,hx,rfl⟩:=Zqj.1 hw
  exact h1.w x hx) k
 have fin:∀ st z,Fk ys l n=.tup [.nils,.int .i64 z]->JM ys l n (.tup [.nils,.int .i64 z]) st:=fun st z h=>.inl ⟨h,_,rfl⟩
 have fin2:CG l (ys.map Ae)=0->(0≤n∧n≤l.length)->AW (ys.map Aq) (l.take n.toNat) n.toNat=0->E8 (AB (ys.map Aq) (l.take n.toNat) n.toNat)->∀ st,st.get 0=some (.row 60 (Bb (AB (ys.map Aq) (l.take n.toNat) n.toNat)))->JM ys l n (.tup [.sl 0 0 ys.length none,.int .i64 0]) st:=fun a b c d st h=>.inr ⟨a,b,c,d,rfl,h⟩
 change VW P e 0 _ (An [v,w,.int .i64 n] 0 .lf) St0 none [] (Cq _ (JM ys l n))
 generalize JM ys l n=K at *
 by_cases hc:CG l (ys.map Ae)=0
 ·obtain ⟨hn17,hgd,hmy⟩:=YC hoks hc
  have hO:Fk ys l n=if 0≤n∧n≤l.length then (if AW (ys.map Aq) (l.take n.toNat) n.toNat=0 then .tup [.fz ys.length none (Bb (AB (ys.map Aq) (l.take n.toNat) n.toNat)),.int .i64 0] else .tup [.nils,.int .i64 (AW (ys.map Aq) (l.take n.toNat) n.toNat)]) else .tup [.nils,.int .i64 2]:=by unfold Fk;rw [Zpn hc]
  rw [hc] at hch
  by_cases hn:0≤n∧n≤l.length
  ·rw [Zpn hn] at hO
   obtain ⟨m,rfl⟩:∃ m:Nat,n=m:=⟨n.toNat,by omega⟩
   rw [Int.toNat_natCast] at hO
   have hml:m≤l.length:=by omega
   have htl:(l.take m).length=m:=by rw [Zp9];omega
   have htw:∀ (Q:AV->St->Prop) s,(∀ s',s'=s.alloc (.row 60 (Bb (ys.map Aq)))->Q (.sl s.next 0 ys.length none) s')->ESc e 37 [v] s Q:=fun Q s k=>by
    refine ESc.relS h37 (u:=.sl s.next 0 ys.length none) (s':=s.alloc (.row 60 (Ei ys))) ⟨v,ys,rfl,hL,⟨hn17.1,by omega⟩,fun y hy=>(dskB_iff.1 (hgd y hy).2).1.1,rfl,rfl⟩ ?_
    rintro u s' ⟨v',ys',e1,hL',-,-,rfl,rfl⟩
    cases e1
    rw [hL'.inj hL]
    exact k _ (by rw [Zhc])
   have hg0:E8 (ys.map Aq):=fun y hy=>by
    obtain ⟨x,hx,rfl⟩:=Zqj.1 hy
    exact ⟨Sk (hgd x hx).1,WH (hgd x hx).2⟩
   have hY0:(ys.map Aq).length=ys.length:=Zpq ..
   have hact:∀ x ∈ l.take m,Ab x.2.2.1∧(∀ z ∈ x.2.2.2,z<256)∧DG (ys.map Ae) x:=fun x hx=>by
    have hx:=Zqq hx
    obtain ⟨c,hc⟩:=hA.mem hx
    have hm:=hmy x hx
    obtain ⟨k,d,a,b⟩:=x
    obtain ⟨u,-,-,-,h3,h4⟩:=Pk hc
    exact ⟨h3,h4.b.2,hm⟩
   have hrg:=Md hg0 hact
   have hmm:∀ i,i<m->AW (ys.map Aq) (l.take m) (i+1)≠0->∀ st,K (.tup [.nils,.int .i64 (AW (ys.map Aq) (l.take m) (i+1))]) st:=fun i hi he st=>by
    refine fin st _ ?_
    have:=LW he m (by omega)
    rw [hO,Zpr (by rw [this];exact he),this]
   have hend:AW (ys.map Aq) (l.take m) m=0->∀ st,st.get 0=some (.row 60 (Bb (AB (ys.map Aq) (l.take m) m)))->K (.tup [.sl 0 0 ys.length none,.int .i64 0]) st:=fun he st hg=>fin2 hc hn he (hrg m he).1 st hg
   generalize hYY:ys.map Aq=Y0 at *
   clear hO hc
   conv=>whnf
   repeat' (first|(refine htw _ _ (fun s' hs'=>?_);subst hs';conv=>whnf)|(refine NU rfl hA rfl rfl hml (fun u hu=>?_);conv=>whnf)|((first|refine hch _ _ ?_|refine AD rfl hs' ?_);conv=>whnf)|refine Aa ?_ ?_|refine Ax ?_ ?_|refine Al ?_ ?_|(intro _;first|omega|conv=>whnf))
   generalize hA0:l.take m=A at *
   obtain ⟨us,hus,hul,hun⟩:=hu.nth
   have huf:=hu.hf
   refine Am hus ?_
   rw [htl]
   conv=>whnf
   skip
   refine Aw hE m (fun i=>[(9,.sl 0 0 ys.length none),(33,u),(34,.int .i64 (m:Int)),(35,.int .i64 (i:Int))]) (fun i=>[.row 60 (Bb (AB Y0 A i))]) (fun i=>AW Y0 A i=0) rfl (Abs.tells (rs:=[0]) ⟨by decide,⟨r9,t9,r9,r9,trivial⟩,⟨o9 (Hx fun y hy=>((hrg 0 rfl).1 y hy).1),trivial⟩⟩) ?_
   intro i hi hI
   by_cases hlt:i<m
   ·obtain ⟨⟨k,d,a,b⟩,c,r,hx,hxr,hd⟩:=hun i (by omega)
    obtain ⟨bv,rfl,i1,i2,i3,hb⟩:=Pk hxr
    obtain ⟨j1,j2,hmay⟩:=hact _ (Zp5 hx)
    unfold DG at hmay
    obtain ⟨⟨m1,m2⟩,m3,m4,m5⟩:=hmay
    rw [Zpq] at m2
    dsimp only at j1 j2
    obtain ⟨g1,g2,g3⟩:=hrg i hI
    have hm1:AB Y0 A (i+1)=(DP (AB Y0 A i) (k,d,a,b)).2:=by
     show (match A[i]? with|none=>AB Y0 A i|some a=>(DP (AB Y0 A i) a).2)=_
     rw [hx]
    have hm2:AW Y0 A (i+1)=(DP (AB Y0 A i) (k,d,a,b)).1:=by
     show (if AW Y0 A i≠0 then AW Y0 A i else match A[i]? with|none=>0|some a=>(DP (AB Y0 A i) a).1)=_
     rw [Zpr (by rw [hI];decide),hx]
    have hre:=hmm i hlt
    have hgn:=hrg (i+1)
    rw [hm1,hm2] at hgn
    rw [hm2] at hre
    rw [hm1,hm2]
    generalize AB Y0 A i=Y at *
    obtain ⟨y,hy⟩:∃ y,Y[k.toNat]?=some y:=⟨_,Zpj (by omega)⟩
    have hgy:=g1 y (Zp5 hy)
    unfold DP at hre hgn ⊢
    dsimp only at hre hgn ⊢
    rw [hy] at hre hgn ⊢
    dsimp only at hre hgn ⊢
    have hlk:k.toNat*3+3≤(Bb Y).length:=by rw [OG];omega
    have hld:((Bb Y).drop (k.toNat*3)).take 3=y.c:=by rw [Rs hy];exact List.take_left' rfl
    have hset:=fun z=>RS (ys:=Y) (i:=k.toNat) (y:=z) (by omega)
    conv=>whnf
    repeat' (first|((first|refine Ew rfl hus rfl (show i<A.length by omega) hd ?_|refine A8 (cs:=[.int .i64 k,.int .u8 (d:Int),.int .i64 a,bv]) rfl ?_|refine G4 rfl rfl m1 m2 ?_);conv=>whnf)|refine Aa ?_ ?_|(intro _;first|omega|conv=>whnf))
    have huf':=hb.hf
    cases hdd:y.dead with
    | true=>
     have hst:C5 y (k,d,a,b)=(0,y):=by unfold C5;dsimp only;rw [Zpn hdd]
     rw [hst] at hre hgn ⊢
     have hsy:Y.set k.toNat y=Y:=by rw [← Zpk.1 hy |>.2];exact List.set_getElem_self ..
     dsimp only at hre hgn ⊢
     rw [hsy]
     have hhf:=Hx fun y hy=>(g1 y hy).1
     have hyc:y.c=[y.bv,y.wv,.bool true]:=by rw [← hdd];rfl
     refine BE [y.bv,y.wv,.bool true] (by show load 0 (0+k.toNat*3) 3 _=_;rw [Zpy,G8 (e:=60) (cs:=Bb Y) rfl hlk,hld,hyc]) ?_;conv=>whnf
     repeat' (first|((first|refine Ac ?_|refine ⟨rfl,?_⟩);conv=>whnf)|fail)
     refine ⟨hlt,rfl,Abs.tells (rs:=[0]) .a⟩
    | false=>
     have hst:C5 y (k,d,a,b)=(if d=1 then (EA (CV y a b),FP (CV y a b)) else if d=2 then (BP y a b,EW (CV y a b)) else (GW y,D7 y)):=by unfold C5;dsimp only;rw [Zpr (by rw [hdd];decide)]
     have hyc:y.c=[y.bv,y.wv,.bool false]:=by rw [← hdd];rfl
     have hk:d≠3->DKW.ok ⟨y,a,bv,b⟩:=fun h=>⟨hgy.1,j1,hb.b,by have:=(m5 h).2;unfold BM at this;show b.length<_;omega⟩
     obtain ⟨E,D,z1,z2,z3,hED,hz,c1,c2,c3⟩:∃ E D z1 z2 z3,C5 y (k,d,a,b)=(E,D)∧(E=0->[z1,z2,z3]=D.c)∧(d=1->∀ (Q:AV->St->Prop) s,Q (.tup [.agg [z1,z2,z3],.int .i64 E]) s->ESc e 140 [.agg y.c,.int .i64 a,bv] s Q)∧(d=2->∀ (Q:AV->St->Prop) s,Q (.tup [.agg [z1,z2,z3],.int .i64 E]) s->ESc e 63 [.agg y.c,.int .i64 a,bv] s Q)∧(d=3->∀ (Q:AV->St->Prop) s,Q (.tup [.agg [z1,z2,z3],.int .i64 E]) s->ESc e 141 [.agg y.c] s Q):=by
      have q:∀ (E:Int) (D:DK),∃ z1 z2 z3,(E=0->[z1,z2,z3]=D.c)∧(if E=0 then .tup [D.v,.int .i64 0] else .tup [.agg Di,.int .i64 E]:AV)=.tup [.agg [z1,z2,z3],.int .i64 E]:=fun E D=>by
       by_cases h:E=0
       ·exact ⟨_,_,_,fun _=>rfl,by rw [Zpn h,h];rfl⟩
       ·exact ⟨_,_,_,fun g=>absurd g h,by rw [Zpr h];rfl⟩
      obtain rfl|rfl|rfl:d=1∨d=2∨d=3:=by omega
      ·obtain ⟨z1,z2,z3,p1,p2⟩:=q (EA (CV y a b)) (FP (CV y a b))
       exact ⟨_,_,z1,z2,z3,hst,p1,fun _ Q s k=>ESc.fam dwF h140 ⟨y,a,bv,b⟩ (hk (by decide)) p2 k,fun h=>(by cases h),fun h=>(by cases h)⟩
      ·obtain ⟨z1,z2,z3,p1,p2⟩:=q (BP y a b) (EW (CV y a b))
       exact ⟨_,_,z1,z2,z3,hst,p1,fun h=>(by cases h),fun _ Q s k=>ESc.fam fuaF h63 ⟨y,a,bv,b⟩ (hk (by decide)) p2 k,fun h=>(by cases h)⟩
      ·obtain ⟨z1,z2,z3,p1,p2⟩:=q (GW y) (D7 y)
       exact ⟨_,_,z1,z2,z3,hst,p1,fun h=>(by cases h),fun h=>(by cases h),fun _ Q s k=>ESc.fam fluF h141 y hgy.1 p2 k⟩
     rw [hED] at hre hgn ⊢
     dsimp only at hre hgn ⊢
     rw [hyc] at c1 c2 c3
     clear hst hk
     obtain rfl|rfl|rfl:d=1∨d=2∨d=3:=by omega
     all_goals
      refine BE [y.bv,y.wv,.bool false] (by show load 0 (0+k.toNat*3) 3 _=_;rw [Zpy,G8 (e:=60) (cs:=Bb Y) rfl hlk,hld,hyc]) ?_;conv=>whnf
      repeat' (first|((first|refine ESc.inl h38 ?_|refine NY rfl rfl (by omega) (by omega) ?_|refine ECall.inl h85.O h85.G ?_|refine ECall.inl h86.O h86.G ?_|refine ECall.inl h87.O h87.G ?_|refine c1 rfl _ _ ?_|refine c2 rfl _ _ ?_|refine c3 rfl _ _ ?_|refine G4 rfl rfl m1 m2 ?_|refine BE _ (by show storeAt 0 (0+k.toNat*3) [z1,z2,z3] _=_;rw [Zpy];exact FU (e:=60) (cs:=Bb Y) rfl hlk) ?_|refine Ac ?_|refine Cp ?_|refine ⟨rfl,?_⟩);conv=>whnf)|refine AR ?_ ?_|refine Al ?_ ?_|(intro _;first|omega|conv=>whnf))
      ·exact hre (by assumption) _
      ·rename_i he
       have hz:=hz he
       have hhf:=Hx fun y hy=>((hgn he).1 y hy).1
       exact ⟨hlt,he,Abs.tells (rs:=[0]) ⟨by decide,⟨r9,t9,r9,r9,trivial⟩,⟨⟨Bj hhf,by rw [AU hhf,← hset D,← hz];rfl⟩,trivial⟩⟩⟩
   ·have him:i=m:=by omega
    subst him
    conv=>whnf
    repeat' (first|refine Aa ?_ ?_|(intro _;first|omega|conv=>whnf))
    exact hend hI _ rfl
  ·rw [Zpr hn] at hO
   conv=>whnf
   repeat' (first|((first|refine hch _ _ ?_|refine AD rfl hs' ?_);conv=>whnf)|refine Aa ?_ ?_|refine Ax ?_ ?_|refine Al ?_ ?_|(intro _;first|omega|conv=>whnf))
   all_goals exact fin _ _ hO
 ·have hO:Fk ys l n=.tup [.nils,.int .i64 (CG l (ys.map Ae))]:=by unfold Fk;rw [Zpr hc]
  generalize CG l _=A at *
  conv=>whnf
  repeat' (first|(refine hch _ _ ?_;conv=>whnf)|refine Al ?_ ?_|(intro _;first|omega|conv=>whnf))
  all_goals first
   | exact absurd (by assumption) hc
   | exact fin _ _ hO
theorem Zhz {l:List Act}{n:Int}{st:St}(h:JM ys l n u st):Frz st u (Fk ys l n):=by
 rcases h with ⟨h,z,rfl⟩|⟨h1,h2,h3,h4,rfl,h5⟩
 ·rw [h];exact .plain _ rfl
 ·unfold Fk
  rw [Zpn h1,Zpn h2,Zpn h3]
  exact .tup _ _ (.cons (.sl 0 0 _ _ _ 60 _ _ _ h5 (fun j x hx=>by rw [Zpy];exact hx) (Ck (Hx fun y hy=>(h4 y hy).1)) (.inl rfl)) (.cons (.plain _ rfl) .nil))
def Ld (args:List AV) (s:St) (u:AV) (s':St):Prop:=∃ ys l n v w,args=[v,w,.int .i64 n]∧Ls dkV ys v∧Ls actC l w∧((∃ z,Fk ys l n=.tup [.nils,.int .i64 z]∧u=.tup [.nils,.int .i64 z]∧s'=s)∨((CG l (ys.map Ae)=0∧(0≤n∧n≤l.length)∧AW (ys.map Aq) (l.take n.toNat) n.toNat=0∧E8 (AB (ys.map Aq) (l.take n.toNat) n.toNat))∧u=.tup [.sl (0+s.next) 0 ys.length none,.int .i64 0]∧s'=s.alloc (.row 60 (Bb (AB (ys.map Aq) (l.take n.toNat) n.toNat)))))
theorem Zh0 (hE:EM P e) (h36:Con e 36 achF.O) (h37:Con e 37 (relS Pz)) (h38:Inl e 38 T9 [.tmp 2]) (h63:Con e 63 fuaF.O) (h85:Inl e 85 Zs [.cells 4 3,.tmp 5]) (h86:Inl e 86 Zr [.cells 4 3,.tmp 5]) (h87:Inl e 87 Zq [.cells 4 3,.tmp 5]) (h140:Con e 140 dwF.O) (h141:Con e 141 fluF.O):OvOk P 11 (relS Ld):=by
 refine Jv g11.b ?_
 rintro args s u s' ⟨ys,l,n,v,w,rfl,hY,hA,h⟩
 have hr:=Zob hE h36 h37 h38 h63 h85 h86 h87 h140 h141 hY hA (n:=n)
 have hfa:hfs [v,w,.int .i64 n]=true:=by
  have h1:=hY.hf
  have h2:=hA.hf
  show (AM.hf v && (AM.hf w && (true && true)))=true
  rw [h1,h2];rfl
 rcases h with ⟨z,hz,rfl,rfl⟩|⟨⟨h1,h2,h3,h4⟩,rfl,rfl⟩
 ·refine MI hfa (u:=.tup [.nils,.int .i64 z]) rfl (hr.mono fun u st h=>?_) s'
  have:=Zhz h
  rw [hz] at this
  exact this
 ·have hv:Fk ys l n=.tup [.fz ys.length none (Bb (AB (ys.map Aq) (l.take n.toNat) n.toNat)),.int .i64 0]:=by
   unfold Fk;rw [Zpn h1,Zpn h2,Zpn h3]
  have hcf:=Hx fun y hy=>(h4 y hy).1
  unfold JM at hr
  generalize Bb (AB (ys.map Aq) (l.take n.toNat) n.toNat)=R at *
  have key:C P 11 [v,w,.int .i64 n] St0 (fun u s'=>u=.tup [.sl 0 0 ys.length none,.int .i64 0]∧s'=Aj St0 [.row 60 R]):=by
   refine C.abs (hr.mono fun u st h=>?_)
   rcases h with ⟨h,z,rfl⟩|⟨-,-,-,-,rfl,h5⟩
   ·rw [hv] at h;cases h
   ·exact ⟨[0],⟨by simp,⟨⟨rfl,rfl⟩,trivial⟩,⟨⟨Bj hcf,by rw [AU hcf];exact h5⟩,trivial⟩⟩⟩
  refine (C.frame (l:=[.row 60 R]) (u:=.tup [.sl 0 0 ys.length none,.int .i64 0]) hfa ?_ ?_ key ?_ s).mono ?_
  ·intro o ho;simp at ho;subst ho;rfl
  ·exact .inl (by simp)
  ·intro i o h
   rcases i with _|i
   ·simp at h;subst h;rfl
   ·simp at h
  ·rintro v s' ⟨rfl,rfl⟩
   refine ⟨rfl,?_⟩
   show Aj s [Bw _ (.row 60 R)]=_
   rw [AU hcf];rfl
def T6 (el k:Nat):AC:=.seq (.reg [.mk 3 (.mv (.c .nils)) none]) (.seq (.seq (.reg [.mk 4 (.mv (.t 0)) none,.mk 5 (.eqb 2 false (.t 3) (.c .nils)) none]) (.cond (.t 4) (.seq (.reg [.mk 3 (.mv (.c .nils)) none]) .ret) .skip)) (.seq (.reg [.mk 6 (.bsl el k 0 [] []) none,.mk 7 (.mv (.t 0)) none,.mk 8 (.app el k (.t 5) (.t 6)) none,.mk 3 (.mv (.t 7)) none]) .ret))
def DL (k:Nat) (args:List AV) (u:AV):Prop:=∃ v n cs,args=[v]∧Sl k n cs v∧(0<k∧n≤1000000)∧hfs cs=true∧u=Af v
theorem Znn {k:Nat}{cs:List AV}(h:Sl k n cs v):AM.hf (Af v)=true:=by
 rcases h with ⟨rfl,_⟩|⟨rfl,_⟩|⟨c,rfl,_⟩ <;> rfl
variable {f:Nat}
theorem MD (hE:EM P e) {el k:Nat}{fn:Func}(g:GK f fn (.mk (T6 el k) [.tmp 2])):OvOk P f (Ao (DL k)):=by
 refine CX g.b ?_
 rintro args u ⟨v,n,cs,rfl,hs,⟨hk,hn⟩,hc,rfl⟩
 have hvf:=hs.hf
 refine ⟨by show (AM.hf v && true)=true;rw [hvf];rfl,Znn hs,C.of_G hE g ?_⟩
 have fin:∀ (st:St) (r m:Nat) (c:Option Nat),st.get r=some (.row el cs)->m=n->Frz st (.sl r 0 m c) (.fz n none cs):=by
  rintro st r m c hg rfl
  exact .sl r 0 _ _ _ el _ _ _ hg (fun i x hx=>by rw [Zpy];exact hx) (Ck hc) (.inl rfl)
 change VW P e 0 _ (An [v] 0 .lf) St0 none [] _
 rcases hs with ⟨rfl,rfl,rfl⟩|⟨rfl,rfl,rfl⟩|⟨c,rfl,hl⟩
 ·conv=>whnf
  repeat' (first|(refine G5 rfl rfl rfl ?_;conv=>whnf)|fail)
  exact .plain _ rfl
 ·conv=>whnf
  repeat' (first|((first|refine G5 rfl rfl rfl ?_|refine Fc rfl rfl rfl ?_);conv=>whnf)|fail)
  exact fin _ _ _ _ rfl rfl
 ·rcases cs with _|⟨x,l⟩
  ·have h0:n=0:=by
    rcases Nat.eq_zero_or_pos n with h|h
    ·exact h
    ·have:=Nat.mul_pos h hk
     simp at hl;omega
   subst h0
   conv=>whnf
   repeat' (first|((first|refine G5 rfl rfl rfl ?_|refine Fc rfl rfl (I6 (by simp) _) ?_);conv=>whnf)|fail)
   exact fin _ _ _ _ rfl rfl
  ·have h0:0<n:=by
    rcases Nat.eq_zero_or_pos n with h|h
    ·subst h;simp at hl
    ·exact h
   conv=>whnf
   repeat' (first|((first|refine G5 rfl rfl rfl ?_|refine QU (m:=n) rfl rfl (I6 hl _) rfl hl hk h0 hn ?_);conv=>whnf)|fail)
   exact fin _ _ _ _ rfl rfl
theorem Zlc (hE:EM P e):OvOk P 119 (Ao (DL 1)):=MD (el:=5) hE g119
theorem Zlb (hE:EM P e):OvOk P 159 (Ao (DL 6)):=MD (el:=128) hE g159
theorem Zla (hE:EM P e):OvOk P 160 (Ao (DL 1)):=MD (el:=5) hE g160
theorem Zk9 (hE:EM P e):OvOk P 161 (Ao (DL 1)):=MD (el:=22) hE g161
theorem Zk8 (hE:EM P e):OvOk P 194 (Ao (DL 1)):=MD (el:=4) hE g194
theorem Kz {α:Type}{A:Ce α}:∀ {xs:List α}{ls:List (List AV)},All2 A.r xs ls->hfs ls.flatten=true
 | _,_,.nil=>rfl
 | _,_,.cons h1 h2=>by rw [List.flatten_cons];exact EG (A.hf h1) (Kz h2)
theorem Ls.slh {α:Type}{A:Ce α}{xs:List α}(h:Ls A xs v):∃ cs,Sl A.k xs.length cs v∧hfs cs=true:=by
 obtain ⟨ls,a,s,_⟩:=h
 exact ⟨_,s,Kz a⟩
theorem Ls.cln {α:Type}{A:Ce α}{xs:List α}(h:Ls A xs v):Ls A xs (Af v):=by
 obtain ⟨ls,a,s,hn⟩:=h
 refine ⟨ls,a,?_,hn⟩
 rcases s with ⟨rfl,h1,h2⟩|⟨rfl,h1,h2⟩|⟨c,rfl,h1⟩
 ·exact .inl ⟨rfl,h1,h2⟩
 ·exact .inr (.inr ⟨none,by rw [h1,h2];rfl,by rw [h1,h2];simp⟩)
 ·exact .inr (.inr ⟨none,rfl,h1⟩)
theorem I0 {α:Type}{A:Ce α}{xs:List α}(hf:Con e f (Ao (DL A.k))) (h:Ls A xs v) (hk:0<A.k) (hn:xs.length≤1000000) (Q:AV->St->Prop) (s:St) (q:Q (Af v) s):ESc e f [v] s Q:=by
 obtain ⟨cs,h1,h2⟩:=h.slh
 refine ESc.rel hf ⟨_,v,_,cs,rfl,h1,⟨hk,hn⟩,h2,rfl⟩ ?_
 rintro u ⟨v',n',cs',e1,h1',-,-,rfl⟩
 cases e1
 exact q
def Je:AV->AV
 | .fz (n+1) _ l=>.fz (n+1) none (l.map Af)
 | _=>.nils
theorem Zns (h:Ls bytC bl v):Ls bytC bl (Je v):=by
 obtain ⟨ls,a,s,hn⟩:=h
 rcases s with ⟨rfl,h1,h2⟩|⟨rfl,h1,h2⟩|⟨c,rfl,h1⟩
 ·rw [Zqh.1 h1];exact Ee (.inl rfl)
 ·rw [Zqh.1 h1];exact Ee (.inl rfl)
 ·rcases bl with _|⟨b,bl⟩
  ·exact Ee (.inl rfl)
  ·have key:∀ {bl:List (List Nat)}{ls:List (List AV)},All2 bytC.r bl ls->All2 bytC.r bl (ls.map fun l=>l.map Af)∧(ls.map fun l=>l.map Af).flatten=ls.flatten.map Af:=by
    intro bl ls h
    induction h with
    | nil=>exact ⟨.nil,rfl⟩
    | cons h1 h2 ih=>
     obtain ⟨u,rfl,hu⟩:=h1
     refine ⟨.cons ⟨_,rfl,hu.cln⟩ ih.1,?_⟩
     rw [Zqz,List.flatten_cons,List.flatten_cons,Zp8,ih.2]
   obtain ⟨k1,k2⟩:=key a
   refine ⟨_,k1,.inr (.inr ⟨none,?_,?_⟩),hn⟩
   ·rw [k2];rfl
   ·rw [k2,Zpq];exact h1
def DS:List AV->List AV
 | [st,bv,dv,ph,de,sq]=>[st,Je bv,Af dv,ph,de,sq]
 | l=>l
def hdS (x:Hd):Prop:=x.2.1.length≤1000∧(∀ b ∈ x.2.1,b.length≤1000)∧x.2.2.1.length≤1000
theorem Ps (h:hdC.r x l):hdC.r x (DS l):=by
 obtain ⟨st,bl,di,ph,de,sq⟩:=x
 obtain ⟨_,_,rfl,⟨rfl,h1⟩,_,_,rfl,⟨bv,rfl,h2⟩,_,_,rfl,⟨dv,rfl,h3⟩,_,_,rfl,⟨rfl,h4⟩,_,_,rfl,rfl,rfl,h5⟩:=h
 exact ⟨[_],_,rfl,⟨rfl,h1⟩,[_],_,rfl,⟨_,rfl,Zns h2⟩,[_],_,rfl,⟨_,rfl,Ls.cln h3⟩,[_],_,rfl,⟨rfl,h4⟩,[_],_,rfl,rfl,rfl,h5⟩
def PF (args:List AV) (u:AV):Prop:=∃ x l,args=[.agg l]∧hdC.r x l∧hdS x∧u=.agg (DS l)
theorem Zm5 (hE:EM P e) (h119:Con e 119 (Ao (DL 1))) (h194:Con e 194 (Ao (DL 1))):OvOk P 158 (Ao PF):=by
 refine CX g158.b ?_
 rintro args u ⟨⟨st,bl,di,ph,de,sq⟩,l,rfl,hx,⟨s1,s2,s3⟩,rfl⟩
 have hrow:=hdC.hf hx
 have hrow2:=hdC.hf (Ps hx)
 obtain ⟨bv,dv,rfl,o1,hB,hD,o4,o5⟩:=Cm hx
 dsimp only at s1 s2 s3 hB hD
 have hbf:=hB.hf
 have hdf:=hD.hf
 have hdf2:=(Ls.cln hD).hf
 refine ⟨by show (hfs _ && true)=true;rw [hrow];rfl,by show hfs _=true;exact hrow2,C.of_G hE g158 ?_⟩
 have hcd:=fun Q s q=>I0 (A:=Ce.bool) (e:=e) (f:=194) h194 hD (by decide) (by omega) Q s q
 obtain ⟨cs,hs',hl',hn⟩:=hB.nth
 have hcb:=fun (b:List Nat) (w:AV) (hw:Ls Ce.u8 b w) (hb:b.length≤1000) Q s q=>I0 (A:=Ce.u8) (e:=e) (f:=119) h119 hw (by decide) (by omega) Q s q
 have hdc:=(Ls.cln hD).cell
 have hbc:=hB.cell
 change VW P e 0 _ (An [.agg [.int .i64 st,bv,dv,.int .u8 (ph:Int),.bool de,.int .u32 sq]] 0 .lf) St0 none [] _
 conv=>whnf
 repeat' (first|(refine DA (by show Nat.beq (A7 (cellsOf (Af dv))) 1=true;rw [hdc];rfl) ?_;rw [hdc];conv=>whnf)|((first|refine hcd _ _ ?_|refine AD rfl hs' ?_);conv=>whnf)|fail)
 have hcsf:hfs (cs.map Af)=true:=by
  obtain ⟨ls,a,sl,_⟩:=id hB
  have e:ls.flatten=cs:=sl.l_inj hs'
  have key:∀ {bl:List (List Nat)}{ls:List (List AV)},All2 bytC.r bl ls->hfs (ls.flatten.map Af)=true:=by
   intro bl ls h
   induction h with
   | nil=>rfl
   | cons h1 h2 ih=>
    obtain ⟨u,rfl,hu⟩:=h1
    rw [List.flatten_cons,Zp8]
    exact EG (by show (AM.hf (Af u) && true)=true;rw [(Ls.cln hu).hf];rfl) ih
  rw [← e];exact key a
 have hft:∀ i,hfs ((cs.take i).map Af)=true:=fun i=>hfs_iff.2 fun v hv=>by
  obtain ⟨w,hw,rfl⟩:=Zqj.1 hv
  exact hfs_iff.1 hcsf _ (Zqj.2 ⟨w,Zqq hw,rfl⟩)
 have hcl:cs.length=bl.length:=by
  have:=hs'
  rcases this with ⟨_,h1,h2⟩|⟨_,h1,h2⟩|⟨c,_,h1⟩
  ·rw [h1,h2];rfl
  ·rw [h1,h2];rfl
  ·rw [h1];exact Zqm _
 have hbT:Je bv=match bl.length with|0=>.nils|m+1=>.fz (m+1) none (cs.map Af):=by
  rcases hs' with ⟨rfl,h1,h2⟩|⟨rfl,h1,h2⟩|⟨c,rfl,h1⟩
  ·rw [h1];rfl
  ·rw [h1];rfl
  ·cases hb:bl.length with
   | zero=>rfl
   | succ m=>rfl
 refine Aw hE bl.length (fun i=>[(1,.ptr 0 0),(2,.ptr 1 0),(13,bv),(14,.int .i64 (bl.length:Int)),(15,.int .i64 (i:Int))]) (fun i=>match i with
  | 0=>[.row 55 [.int .i64 st,.nils,Af dv,.int .u8 (ph:Int),.bool de,.int .u32 sq],.row 55 [.int .i64 0,.nils,.nils,.int .u8 0,.bool false,.int .u32 0]]
  | i+1=>[.row 55 [.int .i64 st,.sl 2 0 (i+1) none,Af dv,.int .u8 (ph:Int),.bool de,.int .u32 sq],.row 55 [.int .i64 0,.nils,.nils,.int .u8 0,.bool false,.int .u32 0],.row 76 ((cs.take (i+1)).map Af)]) (fun _=>True) trivial (Abs.tells (rs:=[0,1]) ⟨by decide,⟨r9,r9,t9,r9,r9,trivial⟩,⟨?_,r9,trivial⟩⟩) ?_
 ·have hr:hfs [.int .i64 st,.nils,Af dv,.int .u8 (ph:Int),.bool de,.int .u32 sq]=true:=by
   show (true && (true && (AM.hf (Af dv) && (true && (true && (true && true))))))=true;rw [hdf2];rfl
  exact o9 hr
 intro i hi _
 by_cases hlt:i<bl.length
 ·obtain ⟨b,_,r,hb,⟨w,rfl,hw⟩,hd⟩:=hn i hlt
  have hwb:=s2 b (Zp5 hb)
  have hcw:=hcb b w hw hwb
  have hwc:=(Ls.cln hw).cell
  have hwf:=(Ls.cln hw).hf
  have hst:(cs.take (i+1)).map Af=(cs.take i).map Af++[Af w]:=by
   have:cs[i]?=some w:=by
    have hd2:cs.drop (i*1)=[w]++r:=hd
    have:=congrArg List.head? hd2
    rw [Zqm,List.head?_drop] at this
    exact this
   rw [List.take_add_one,this];simp
  have hli:((cs.take i).map Af).length=i:=by rw [Zpq,Zp9,hcl];omega
  have hfi:=hft (i+1)
  rcases i with _|i
  ·conv=>whnf
   repeat' (first|((first|refine Ar hs' hlt hd ?_|refine As ?_|refine hcw _ _ ?_|refine OK rfl hwc ?_|refine CO (m:=1) ?_|refine Ac ?_|refine ⟨rfl,?_⟩);conv=>whnf)|refine Aa ?_ ?_|(intro _;first|omega|conv=>whnf))
   refine ⟨hlt,trivial,Abs.tells (rs:=[0,1,3]) ⟨by decide,⟨r9,r9,t9,r9,r9,trivial⟩,⟨⟨?_,?_⟩,r9,⟨Bj hfi,by rw [AU hfi,hst];rfl⟩,trivial⟩⟩⟩
   ·show (true && (true && (bd 3 (Af dv) && (true && (true && (true && true))))))=true
    rw [Dp _ hdf2];rfl
   ·show _=some (AObj.row 55 [_,_,Bg _ (Af dv),_,_,_])
    rw [CZ _ hdf2];rfl
  ·conv=>whnf
   repeat' (first|((first|refine Ar hs' hlt hd ?_|refine As ?_|refine hcw _ _ ?_|refine OK rfl hwc ?_|refine C6 (m:=1) (n:=i+1) (old:=(cs.take (i+1)).map Af) rfl rfl rfl rfl (by rw [hli,Zqm]) rfl (by decide) (by omega) ?_|refine Ac ?_|refine ⟨rfl,?_⟩);conv=>whnf)|refine Aa ?_ ?_|(intro _;first|omega|conv=>whnf))
   refine ⟨hlt,trivial,Abs.tells (rs:=[0,1,4]) ⟨by decide,⟨r9,r9,t9,r9,r9,trivial⟩,⟨⟨?_,?_⟩,r9,⟨Bj hfi,by rw [AU hfi,hst];rfl⟩,trivial⟩⟩⟩
   ·show (true && (true && (bd 3 (Af dv) && (true && (true && (true && true))))))=true
    rw [Dp _ hdf2];rfl
   ·show _=some (AObj.row 55 [_,_,Bg _ (Af dv),_,_,_])
    rw [CZ _ hdf2];rfl
 ·obtain rfl:i=bl.length:=by omega
  have htk:cs.take bl.length=cs:=Zps (by omega)
  have hfin:∀ (s:St) (w:AV),Frz s w (Je bv)->Frz s (.agg [.int .i64 st,w,Af dv,.int .u8 (ph:Int),.bool de,.int .u32 sq]) (.agg (DS [.int .i64 st,bv,dv,.int .u8 (ph:Int),.bool de,.int .u32 sq])):=fun s w h=>.agg _ _ (.cons (.plain _ rfl) (.cons h (.cons (.plain _ hdf2) (.cons (.plain _ rfl) (.cons (.plain _ rfl) (.cons (.plain _ rfl) .nil))))))
  rw [hbT] at hfin
  generalize hO:AV.agg (DS [.int .i64 st,bv,dv,.int .u8 (ph:Int),.bool de,.int .u32 sq])=O at *
  clear hO
  revert hfin htk hi hcl
  generalize bl.length=n
  rcases n with _|n
  ·intro hi hcl htk hfin
   conv=>whnf
   repeat' (first|refine Aa ?_ ?_|(intro _;first|omega|conv=>whnf))
   exact hfin _ _ (.plain _ rfl)
  ·intro hi hcl htk hfin
   dsimp only
   rw [htk]
   conv=>whnf
   repeat' (first|refine Aa ?_ ?_|(intro _;first|omega|conv=>whnf))
   exact hfin _ _ (.sl 2 0 _ _ _ 76 _ _ _ rfl (fun i x hx=>by rw [Zpy];exact hx) (Ck hcsf) (.inl rfl))
def PG:List AV->List AV
 | a::b::c::d::e::f::l=>a::Je b::Af c::d::e::f::PG l
 | l=>l
def Jb:AV->AV
 | .es=>.fz 0 none []
 | .fz n _ l=>.fz n none (PG l)
 | v=>v
theorem six (h:hdC.r x l):∃ a b c d e f,l=[a,b,c,d,e,f]:=by
 obtain ⟨st,bl,di,ph,de,sq⟩:=x
 obtain ⟨bv,dv,rfl,-⟩:=Cm h
 exact ⟨_,_,_,_,_,_,rfl⟩
theorem Oi:∀ {hs:List Hd}{ls:List (List AV)},All2 hdC.r hs ls->PG ls.flatten=(ls.map DS).flatten∧All2 hdC.r hs (ls.map DS)
 | _,_,.nil=>⟨rfl,.nil⟩
 | _,_,.cons h1 h2=>by
  obtain ⟨a,b,c,d,e,f,rfl⟩:=six h1
  obtain ⟨k1,k2⟩:=Oi h2
  refine ⟨?_,.cons (Ps h1) k2⟩
  rw [List.flatten_cons,Zqz,List.flatten_cons,← k1];rfl
theorem Sp (h:Ls hdC hs v):Ls hdC hs (Jb v):=by
 obtain ⟨ls,a,s,hn⟩:=h
 obtain ⟨k1,k2⟩:=Oi a
 rcases s with ⟨rfl,h1,h2⟩|⟨rfl,h1,h2⟩|⟨c,rfl,h1⟩
 ·rw [Zqh.1 h1];exact Ee (.inl rfl)
 ·rw [Zqh.1 h1]
  exact ⟨[],.nil,.inr (.inr ⟨none,rfl,rfl⟩),by simp⟩
 ·refine ⟨_,k2,.inr (.inr ⟨none,?_,?_⟩),hn⟩
  ·rw [← k1];rfl
  ·exact FW k2
def Dj (ls:List (List AV)) (i:Nat):List AV:=((ls.take i).map DS).flatten++(ls.drop i).flatten
theorem Zl2 {ls:List (List AV)}(h:All2 hdC.r hs ls) (hx:hs[i]?=some x):∃ c,ls[i]?=some c∧hdC.r x c∧((Dj ls i).drop (i*6)).take 6=c∧i*6+6≤(Dj ls i).length∧(Dj ls i).take (i*6)++DS c++(Dj ls i).drop (i*6+6)=Dj ls (i+1):=by
 have hlt:=(Zpk.1 hx).1
 have hll:=h.length
 obtain ⟨c,hc,hr⟩:=h.get hx
 obtain ⟨a,b,c',d,e,f,rfl⟩:=six hr
 obtain ⟨-,k2⟩:=Oi h
 have hp:((ls.take i).map DS).flatten.length=i*6:=by
  have key:∀ (hs:List Hd) (ls:List (List AV)),All2 hdC.r hs ls->∀ i,i≤ls.length->((ls.take i).map DS).flatten.length=i*6:=by
   intro hs ls h
   induction h with
   | nil=>intro i hi;simp at hi;subst hi;rfl
   | cons h1 h2 ih=>
    intro i hi
    cases i with
    | zero=>rfl
    | succ i=>
     rw [List.take_succ_cons,Zqz,List.flatten_cons,Zpx,ih i (by simpa using hi),hdC.len (Ps h1)]
     show 6+_=_
     omega
  exact key hs ls h i (by omega)
 have hd:(ls.drop i).flatten=[a,b,c',d,e,f]++(ls.drop (i+1)).flatten:=by
  rw [Zp6 (by omega),List.flatten_cons,(Zpk.1 hc).2]
 refine ⟨_,hc,hr,?_,?_,?_⟩
 ·unfold Dj
  rw [List.drop_append,hp,Nat.sub_self,List.drop_of_length_le (by omega),hd]
  rfl
 ·unfold Dj
  rw [Zpx,hp,hd];simp
 ·unfold Dj
  rw [← hp,List.take_left,List.drop_append,List.drop_of_length_le (by omega),Nat.add_sub_cancel_left,hd,List.take_add_one,hc,Zp8,List.flatten_append]
  simp
def Tn (args:List AV) (u:AV):Prop:=∃ hs v,args=[v]∧Ls hdC hs v∧(hs.length≤1000∧∀ x ∈ hs,hdS x)∧u=Jb v
theorem Zi7 (h158:Con e 158 (Ao PF)) (h:hdC.r x l) (hs:hdS x) (Q:AV->St->Prop) (s:St) (q:Q (.agg (DS l)) s):ESc e 158 [.agg l] s Q:=by
 refine ESc.rel h158 ⟨_,x,l,rfl,h,hs,rfl⟩ ?_
 rintro u ⟨x',l',e1,-,-,rfl⟩
 cases e1
 exact q
theorem Zl5 (hE:EM P e) (h157:Inl e 157 (T6 55 6) [.tmp 2]) (h158:Con e 158 (Ao PF)):OvOk P 116 (Ao Tn):=by
 refine CX g116.b ?_
 rintro args u ⟨hs,v,rfl,hH,⟨hn,hok⟩,rfl⟩
 have hvf:=hH.hf
 have huf:=(Sp hH).hf
 refine ⟨by show (AM.hf v && true)=true;rw [hvf];rfl,huf,C.of_G hE g116 ?_⟩
 obtain ⟨ls,a,sl,-⟩:=hH
 obtain ⟨k1,k2⟩:=Oi a
 have hfl:=Kz k2
 change VW P e 0 _ (An [v] 0 .lf) St0 none [] _
 have fin:∀ (st:St) (r m:Nat) (c:Option Nat),st.get r=some (.row 55 (ls.map DS).flatten)->m=hs.length->Frz st (.sl r 0 m c) (.fz hs.length none (ls.map DS).flatten):=by
  rintro st r m c hg rfl
  exact .sl r 0 _ _ _ 55 _ _ _ hg (fun i x hx=>by rw [Zpy];exact hx) (Ck hfl) (.inl rfl)
 rcases sl with ⟨rfl,h1,h2⟩|⟨rfl,h1,h2⟩|⟨c,rfl,hl⟩
 ·conv=>whnf
  repeat' (first|((first|refine ESc.inl h157 ?_|refine G5 rfl rfl rfl ?_|refine AD rfl (show Sl 1 0 [] .nils from .inl ⟨rfl,rfl,rfl⟩) ?_);conv=>whnf)|fail)
  refine Aw hE 0 (fun i=>[(3,.nils),(8,.nils),(9,.int .i64 0),(10,.int .i64 (i:Int))]) (fun _=>[]) (fun _=>True) trivial (Abs.tells (rs:=[]) .a) ?_
  intro i hi _
  obtain rfl:i=0:=by omega
  conv=>whnf
  repeat' (first|refine Aa ?_ ?_|(intro _;first|omega|conv=>whnf))
  exact .plain _ rfl
 ·obtain rfl:=Zqh.1 h1
  cases a
  conv=>whnf
  repeat' (first|((first|refine ESc.inl h157 ?_|refine G5 rfl rfl rfl ?_|refine Fc rfl rfl rfl ?_|refine Cw ?_);conv=>whnf)|fail)
  refine Aw hE 0 (fun i=>[(3,.sl 0 0 0 (some 0)),(8,.sl 0 0 0 (some 0)),(9,.int .i64 0),(10,.int .i64 (i:Int))]) (fun _=>[.row 55 []]) (fun _=>True) trivial (Abs.tells (rs:=[0]) .a) ?_
  intro i hi _
  obtain rfl:i=0:=by omega
  conv=>whnf
  repeat' (first|refine Aa ?_ ?_|(intro _;first|omega|conv=>whnf))
  exact fin _ _ _ _ rfl rfl
 ·rcases hs with _|⟨x0,hs⟩
  ·cases a
   conv=>whnf
   repeat' (first|((first|refine ESc.inl h157 ?_|refine G5 rfl rfl rfl ?_|refine Fc rfl rfl (I6 (by simp) _) ?_|refine Cw ?_);conv=>whnf)|fail)
   refine Aw hE 0 (fun i=>[(3,.sl 0 0 0 (some 0)),(8,.sl 0 0 0 (some 0)),(9,.int .i64 0),(10,.int .i64 (i:Int))]) (fun _=>[.row 55 []]) (fun _=>True) trivial (Abs.tells (rs:=[0]) .a) ?_
   intro i hi _
   obtain rfl:i=0:=by omega
   conv=>whnf
   repeat' (first|refine Aa ?_ ?_|(intro _;first|omega|conv=>whnf))
   exact fin _ _ _ _ rfl rfl
  ·have h0:0<(x0::hs).length:=Nat.succ_pos _
   generalize x0::hs=hs at *
   obtain ⟨y,cs,hcs⟩:∃ y cs,ls.flatten=y::cs:=by
    cases hq:ls.flatten with
    | nil=>rw [hq] at hl;have hl:0=hs.length*6:=hl;omega
    | cons y cs=>exact ⟨y,cs,rfl⟩
   have hcf:=Kz a
   have hend:(AV.fz hs.length none (PG ls.flatten))=.fz hs.length none (ls.map DS).flatten:=by rw [k1]
   have hst0:Dj ls 0=ls.flatten:=rfl
   have hstn:Dj ls hs.length=(ls.map DS).flatten:=by
    unfold Dj;rw [a.length,List.take_length,List.drop_length];simp
   have hsf:∀ i,hfs (Dj ls i)=true:=fun i=>by
    unfold Dj
    have e1:∀ l ∈ ls,hfs l=true:=fun l hl=>by
     obtain ⟨x,hx⟩:=a.memR l hl
     exact hdC.hf hx
    have e2:∀ l ∈ ls,hfs (DS l)=true:=fun l hl=>by
     obtain ⟨x,hx⟩:=a.memR l hl
     exact hdC.hf (Ps hx)
    refine EG (hfs_iff.2 fun v hv=>?_) (hfs_iff.2 fun v hv=>?_)
    ·obtain ⟨l,hl,hv⟩:=List.mem_flatten.1 hv
     obtain ⟨m,hm,rfl⟩:=Zqj.1 hl
     exact hfs_iff.1 (e2 m (Zqq hm)) v hv
    ·obtain ⟨l,hl,hv⟩:=List.mem_flatten.1 hv
     exact hfs_iff.1 (e1 l (Zqv hl)) v hv
   have hsrc:∀ s,Dd 6 (.fz hs.length c ls.flatten) s=some (y::cs):=fun s=>by rw [← hcs];exact I6 hl s
   have hlc:(y::cs).length=hs.length*6:=by rw [← hcs];exact hl
   conv=>whnf
   repeat' (first|((first|refine ESc.inl h157 ?_|refine G5 rfl rfl rfl ?_|refine QU (m:=hs.length) rfl rfl (hsrc _) rfl hlc (by decide) h0 (by omega) ?_|refine Cw ?_);conv=>whnf)|fail)
   have hr0:hfs (y::cs)=true:=by rw [← hcs];exact hcf
   refine Aw hE hs.length (fun i=>[(3,.sl 0 0 hs.length none),(8,.sl 0 0 hs.length none),(9,.int .i64 (hs.length:Int)),(10,.int .i64 (i:Int))]) (fun i=>[.row 55 (Dj ls i)]) (fun _=>True) trivial (Abs.tells (rs:=[1]) ⟨by decide,⟨r9,r9,r9,r9,trivial⟩,⟨⟨Bj (hsf 0),by rw [AU (hsf 0),hst0,hcs];rfl⟩,trivial⟩⟩) ?_
   intro i hi _
   by_cases hlt:i<hs.length
   ·obtain ⟨x,hx⟩:∃ x,hs[i]?=some x:=⟨_,Zpj hlt⟩
    obtain ⟨l,hl1,hl2,hl3,hl4,hl5⟩:=Zl2 a hx
    have hcall:=Zi7 h158 hl2 (hok x (Zp5 hx))
    obtain ⟨a1,a2,a3,a4,a5,a6,rfl⟩:=six hl2
    have hT:DS [a1,a2,a3,a4,a5,a6]=[a1,Je a2,Af a3,a4,a5,a6]:=rfl
    rw [hT] at hcall hl5
    have hi0:0≤(i:Int):=Zq2 _
    have hi1:(i:Int)<hs.length:=Int.ofNat_lt.2 hlt
    have hld:∀ (s:St),s.get 0=some (.row 55 (Dj ls i))->load 0 (0+(i:Int).toNat*6) 6 s=some [a1,a2,a3,a4,a5,a6]:=fun s hs=>by
     rw [Int.toNat_natCast,Zpy,G8 hs hl4,hl3]
    have hsto:∀ (s:St),s.get 0=some (.row 55 (Dj ls i))->storeAt 0 (0+(i:Int).toNat*6) [a1,Je a2,Af a3,a4,a5,a6] s=some (s.put 0 (.row 55 (Dj ls (i+1)))):=fun s hs=>by
     rw [Int.toNat_natCast,Zpy,FU hs hl4]
     show some (s.put 0 (.row 55 ((Dj ls i).take (i*6)++[a1,Je a2,Af a3,a4,a5,a6]++(Dj ls i).drop (i*6+6))))=_
     rw [hl5]
    have hs1:=hsf (i+1)
    generalize Dj ls (i+1)=S1 at *
    generalize Dj ls i=S0 at *
    conv=>whnf
    repeat' (first|((first|refine G4 rfl rfl hi0 hi1 ?_|refine BE _ (hld _ rfl) ?_|refine hcall _ _ ?_|refine BE _ (hsto _ rfl) ?_|refine Ac ?_|refine ⟨rfl,?_⟩);conv=>whnf)|refine Aa ?_ ?_|(intro _;first|omega|conv=>whnf))
    exact ⟨hlt,trivial,Abs.tells (rs:=[0]) .a⟩
   ·obtain rfl:i=hs.length:=by omega
    have hq:Jb (.fz hs.length c ls.flatten)=.fz hs.length none (ls.map DS).flatten:=hend
    rw [hstn,hq]
    conv=>whnf
    repeat' (first|refine Aa ?_ ?_|(intro _;first|omega|conv=>whnf))
    exact fin _ _ _ _ rfl rfl
end Go.AM
