/-
 Functions of the program as the abstract machine reads them, and what is stated of them, checked by the kernel. No conditions.
-/
import Derived.Test.YtacmbogmbfmjeaaGreatStE
import Derived.Test.YtacmbogmbfmjeaaGreatStA
import Derived.Test.YtacmbogmbfmjeaaGreatAM5
set_option linter.unusedVariables false
set_option linter.unusedSimpArgs false
set_option linter.unnecessarySimpa false
set_option maxRecDepth 100000
namespace Go.AM
attribute [local irreducible] W
open X
def Zpt:AC:=match Pv with|.mk c _=>c
def Zps:AC:=match Pt with|.mk c _=>c
noncomputable def fbkF:Fn (Fl×Int×Unit):=bF (.g ftC (.v i64C .nil)) (fun x=>0≤x.2.1∧x.2.1<x.1.2.2.1.length∧x.2.1<x.1.2.2.2.1.length∧x.2.1<x.1.2.2.2.2.length) fun x=>Gf x.1 x.2.1.toNat
variable {e:Env}
set_option maxHeartbeats 2000000 in
theorem Zil (hE:EM P e) (h210:Inl e 210 Zpt [.tmp 2]) (h211:Inl e 211 Zps [.tmp 2]):OvOk P 190 fbkF.O:=by
 refine Bo hE g190 ?_
 rintro ⟨⟨n,⟨k,a,m,d⟩,st,sq,da⟩,j,_⟩ _ ⟨_,_,rfl,hf,_,_,rfl,⟨e1,-⟩,rfl⟩ ⟨q1,q2,q3,q4⟩ K t f
 cases e1
 obtain ⟨dv,tv,qv,av,rfl,o1,o2,o3,o4,h1,h2,h3,h4⟩:=De hf
 dsimp only at q1 q2 q3 q4
 obtain ⟨i,rfl⟩:∃ i:Nat,j=i:=⟨j.toNat,by omega⟩
 obtain ⟨ts,hs1,-,hn1⟩:=h2.nth
 obtain ⟨qs,hs2,-,hn2⟩:=h3.nth
 obtain ⟨es,hs3,-,hn3⟩:=h4.nth
 obtain ⟨s,_,r1,hx1,⟨rfl,hlt⟩,hd1⟩:=hn1 i (by omega)
 obtain ⟨q,_,r2,hx2,⟨rfl,hq⟩,hd2⟩:=hn2 i (by omega)
 obtain ⟨b,_,r3,hx3,⟨u,rfl,hu⟩,hd3⟩:=hn3 i (by omega)
 obtain ⟨us,hus,-⟩:=hu.nth
 have hq:=IW hq
 unfold Be at hq
 have hi1:i<st.length:=by omega
 have hi2:i<sq.length:=by omega
 have hi3:i<da.length:=by omega
 unfold Gf at t f
 dsimp only at t f
 rw [Int.toNat_natCast,hx1,hx2,hx3] at t f
 unfold Se at t f
 dsimp only [Option.getD] at t f
 generalize b.length=bn at t f hus
 clear hx3 hu hf h1 h2 h3 h4 hn1 hn2 hn3 q1 q2 q3 q4
 change VW P e 0 _ (Ah [_,.int .i64 (i:Int)] 0 .lf) St0 none [] _
 conv=>whnf
 repeat' (first|((first|refine Am hs1 hi1 hd1 ?_|refine Am hs2 hi2 hd2 ?_|refine Am hs3 hi3 hd3 ?_|refine Ap ?_|refine Ai hus ?_|refine A7 (cs:=[.int .u8 (k:Int),.int .i64 a,.int .i64 m,dv]) rfl ?_|refine ESc.inl h210 ?_|refine ESc.inl h211 ?_|refine Cp ?_|refine ⟨rfl,?_⟩);conv=>whnf)|refine v3 ?_ ?_|refine v5 ?_ ?_|(intro _;first|omega|conv=>whnf))
 all_goals first
  | exact t (by omega) _
  | exact f (by omega) _
noncomputable def fonF:Fn (Cfg×Fl×Unit):=bF (.g cfgC (.g ftC .nil)) (fun x=>x.1.may) fun x=>J1 x.1 x.2.1
set_option maxHeartbeats 2000000 in
theorem Zh8 (hE:EM P e) (h189:Con e 189 sblF.O) (h190:Con e 190 fbkF.O):OvOk P 150 fonF.O:=by
 refine Bo hE g150 ?_
 rintro ⟨c,⟨n,⟨k,a,m,d⟩,st,sq,da⟩,_⟩ _ ⟨_,_,rfl,⟨rfl,hc⟩,_,_,rfl,hf,rfl⟩ hM K t f
 have hM:c.may:=hM
 obtain ⟨dv,tv,qv,av,rfl,o1,o2,o3,o4,h1,h2,h3,h4⟩:=De hf
 have hrow:=ftC.hf hf
 have hak:=KB o2 o3 o4 h1
 obtain ⟨ts,hs1,hl1,-⟩:=h2.nth
 obtain ⟨qs,hs2,hl2,-⟩:=h3.nth
 obtain ⟨es,hs3,hl3,-⟩:=h4.nth
 dsimp only at t f hf hc
 have hc1:=fun (Q:AV→St→Prop) s q=>@Fn.u _ e 189 s Q sblF _ h189 (c,(k,a,m,d),()) ⟨_,_,rfl,⟨rfl,hc⟩,_,_,rfl,hak,rfl⟩ hM q
 have hc2:=fun (i:Nat) (h0:i<st.length) (hi:i<st.length∧i<sq.length∧i<da.length) (Q:AV→St→Prop) s a' b=>@bF.u _ _ _ _ e 190 s Q [_,.int .i64 (i:Int)] h190 ((n,(k,a,m,d),st,sq,da),(i:Int),()) ⟨_,_,rfl,hf,_,_,rfl,⟨rfl,AW (show Aa (i:Int) by unfold Aa;omega)⟩,rfl⟩ ⟨Zrs _,Int.ofNat_lt.2 hi.1,Int.ofNat_lt.2 hi.2.1,Int.ofNat_lt.2 hi.2.2⟩ a' b
 replace hc2:∀ i:Nat,i<st.length→i<sq.length→i<da.length→∀ (Q:AV→St→Prop) s,(Gf (n,(k,a,m,d),st,sq,da) i→Q (.bool true) s)→(¬Gf (n,(k,a,m,d),st,sq,da) i→Q (.bool false) s)→ESc e 190 [.agg [.int .i64 n,.int .u8 (k:Int),.int .i64 a,.int .i64 m,dv,tv,qv,av],.int .i64 (i:Int)] s Q:=fun i h1 h2 h3 Q s a b=>hc2 i h1 ⟨h1,h2,h3⟩ Q s a b
 have hk:B2 c (k,a,m,d)→0≤m∧m≤8∧(k=4→m=0):=fun h=>by unfold B2 at h;omega
 replace hc1:∀ (Q:AV→St→Prop) s,Q (if BJ c (k,a,m,d)=0 then .tup [G3 a m.toNat,.int .i64 0] else .tup [.nils,.int .i64 (BJ c (k,a,m,d))]) s→ESc e 189 [.agg c.c,.agg [.int .u8 (k:Int),.int .i64 a,.int .i64 m,dv]] s Q:=hc1
 unfold J1 at t f
 dsimp only at t f
 unfold Aa at o1 o3 o4
 change VW P e 0 _ (Ah [.agg c.c,_] 0 .lf) St0 none [] _
 by_cases hA:B2 c (k,a,m,d)
 ·have hm:=hk hA
  have hsm:=NQ hM hA
  rw [Zqd (akE_iff.2 hA)] at hc1
  generalize hP:Gf (n,(k,a,m,d),st,sq,da)=R at t f hc2
  have hL:=Rb (a:=a) (n:=m.toNat) (fun i hi=>by unfold Aa;omega) (by omega)
  generalize G3 a m.toNat=u at *
  have huf:=hL.hf
  obtain ⟨us,hus,-,-⟩:=hL.nth
  rw [Zqg,List.length_range] at hus
  conv=>whnf
  repeat' (first|((first|refine hc1 _ _ ?_|refine Ai hus ?_|refine Ai hs1 ?_|refine Ai hs2 ?_|refine Ai hs3 ?_);conv=>whnf)|refine v1 ?_ ?_|refine v5 ?_ ?_|refine v6 ?_ ?_|(intro _;first|omega|conv=>whnf))
  all_goals try exact f (fun q=>by omega) _
  all_goals
   have g1:1≤n:=by omega
   have g2:(st.length:Int)=m:=by omega
   have g3:(da.length:Int)=m:=by omega
   have g4:k≠4→(sq.length:Int)=m:=by omega
   have g5:k=4→sq.length=1:=by omega
   refine Ax hE st.length (fun i=>[(3,.ptr 1 0),(53,.int .i64 (st.length:Int)),(54,.int .i64 (i:Int))]) (fun _=>[.row 24 c.c,.row 143 [.int .i64 n,.int .u8 (k:Int),.int .i64 a,.int .i64 m,dv,tv,qv,av]]) (fun i=>∀ j<i,R j) (fun k h=>by omega) (Abs.tells (rs:=[0,1]) ⟨by decide,⟨r9,⟨rfl,?_⟩,r9,trivial⟩,⟨r9,o9 hrow,trivial⟩⟩) ?_
   ·show some (AV.int .i64 ((m.toNat:Nat):Int))=some (.int .i64 (st.length:Int));rw [show m.toNat=st.length by omega]
   intro i hi hI
   by_cases hlt:i<st.length
   ·have hc2:=hc2 i hlt (by omega) (by omega)
    conv=>whnf
    repeat' (first|(refine hc2 _ _ (fun hq=>?_) (fun hq=>?_) <;> conv=>whnf)|((first|refine A7 (cs:=[.int .i64 n,.int .u8 (k:Int),.int .i64 a,.int .i64 m,dv,tv,qv,av]) rfl ?_|refine v7 ?_|refine An ?_|refine As ?_|refine ⟨rfl,?_⟩);conv=>whnf)|refine v1 ?_ ?_|(intro _;first|omega|conv=>whnf))
    all_goals first
     | exact ⟨hlt,AR hI hq,Abs.tells (rs:=[0,1]) .a⟩
     | exact f (fun q=>hq (q.2.2.2.2.2.2 i hlt)) _
   ·conv=>whnf
    repeat' (first|refine v1 ?_ ?_|(intro _;first|omega|conv=>whnf))
    exact t ⟨g1,hA,g2,g3,g4,g5,fun j hj=>hI j (by omega)⟩ _
 ·have hne:=mt akE_iff.1 hA
  rw [Zqh hne] at hc1
  generalize BJ c (k,a,m,d)=E at *
  conv=>whnf
  repeat' (first|((first|refine hc1 _ _ ?_|refine AA rfl (show Sl 1 0 [] .nils from .inl ⟨rfl,rfl,rfl⟩) ?_);conv=>whnf)|refine v5 ?_ ?_|refine v6 ?_ ?_|(intro _;first|omega|conv=>whnf))
  all_goals first
   | exact f (fun q=>hA q.2.1) _
   | exact absurd (by assumption) hne
def Zpv:AC:=match P0 with|.mk c _=>c
def Zpz:AC:=match PA with|.mk c _=>c
def SD (c:Cfg×List Fl×Int×Unit) (xs:List Fl):Prop:=c.1.may∧(0≤c.2.2.1∧c.2.2.1<c.2.1.length)∧(∀ y,c.2.1[c.2.2.1.toNat]?=some y→B2 c.1 y.2.1)∧∀ x ∈ xs,B2 c.1 x.2.1
def KX (c:Cfg×List Fl×Int×Unit) (x:Fl):Prop:=∀ y,c.2.1[c.2.2.1.toNat]?=some y→FL x.2.1 y.2.1
abbrev f1H:Sg (Cfg×List Fl×Int×Unit):=.p cfgC (.p ftC.sl (.p i64C .nil))
noncomputable def ix192:Fn (List Fl×(Cfg×List Fl×Int×Unit)×Unit):=C8 ftC 192 f1H SD KX
theorem Zju (h192:Inl e 192 Zpv [.tmp 5]) (h193:Con e 193 tchF.O):EU e ftC AV.agg 192 f1H SD KX:=by
 rintro ⟨c,L,a,_⟩ q xs ⟨n,⟨k,at',m,d⟩,st,sq,da⟩ l ⟨_,_,rfl,⟨rfl,hc⟩,_,_,rfl,⟨lv,rfl,hL⟩,_,_,rfl,⟨rfl,ha⟩,rfl⟩ ⟨hM,ha0,hy,hxs⟩ hmem hx Q t f
 dsimp only at hc hL ha hM ha0 hy hxs
 have hkx:=hxs _ hmem
 obtain ⟨dv,tv,qv,av,rfl,o1,o2,o3,o4,h1,-⟩:=De hx
 obtain ⟨cs,hs,hl,hn⟩:=hL.nth
 obtain ⟨⟨n',⟨k',a',m',d'⟩,st',sq',da'⟩,_,r,hx',hxr,hd⟩:=hn a.toNat (by omega)
 have hky:=hy _ hx'
 obtain ⟨dv',tv',qv',av',rfl,p1,p2,p3,p4,g1,-⟩:=De hxr
 unfold KX at t f
 dsimp only at t f hkx hky
 rw [hx'] at t f
 have hcall:=fun (Q:AV→St→Prop) s q=>@Fn.u _ e 193 s Q tchF [.agg c.c,.agg [.int .u8 (k:Int),.int .i64 at',.int .i64 m,dv],.agg [.int .u8 (k':Int),.int .i64 a',.int .i64 m',dv']] h193 (c,(k,at',m,d),(k',a',m',d'),()) ⟨_,_,rfl,⟨rfl,hc⟩,_,_,rfl,KB o2 o3 o4 h1,_,_,rfl,KB p2 p3 p4 g1,rfl⟩ ⟨hM,hkx,hky⟩ q
 replace hcall:∀ (Q:AV→St→Prop) s,Q (.tup [pB (FL (k,at',m,d) (k',a',m',d')),.int .i64 0]) s→ESc e 193 [.agg c.c,.agg [.int .u8 (k:Int),.int .i64 at',.int .i64 m,dv],.agg [.int .u8 (k':Int),.int .i64 a',.int .i64 m',dv']] s Q:=hcall
 refine ECall.inl h192.O h192.G ?_
 change VE e _ (Ah [.agg [.int .i64 n,.int .u8 (k:Int),.int .i64 at',.int .i64 m,dv,tv,qv,av],.fp c.c,.fp [lv],.fp [.int .i64 a]] 0 .lf) _ none [] _
 classical
 by_cases hm:FL (k,at',m,d) (k',a',m',d')
 all_goals
  unfold pB at hcall
  first|rw [Zqe hm] at hcall|rw [Zqq hm] at hcall
  conv=>whnf
  repeat' (first|((first|refine A7 (cs:=c.c) rfl ?_|refine Ap ?_|refine BS rfl hs rfl (show a=(a.toNat:Nat) by omega) (by omega) hd ?_|refine A7 (cs:=[.int .u8 (k':Int),.int .i64 a',.int .i64 m',dv']) rfl ?_|refine hcall _ _ ?_);conv=>whnf)|fail)
  first
   | exact t (fun y e=>by cases e;exact hm) _
   | exact f (fun q=>hm (q _ rfl)) _
noncomputable def ffsF:Fn (Cfg×List Fl×Int×Unit):=bF (.g cfgC (.v ftC.sl (.v i64C .nil))) (fun x=>x.1.may∧(0≤x.2.2.1∧x.2.2.1<x.2.1.length)∧∀ k:Nat,(k:Int)≤x.2.2.1→∀ y,x.2.1[k]?=some y→B2 x.1 y.2.1) fun x=>Gq x.2.1 x.2.2.1.toNat
theorem Zii (hE:EM P e) (h107:Inl e 107 So [.tmp 4]) (h154:Con e 154 (relS (BO ix192.R))):OvOk P 153 ffsF.O:=by
 refine Bo hE g153 ?_
 rintro ⟨c,L,a,_⟩ _ ⟨_,_,rfl,⟨rfl,hc⟩,v,_,rfl,⟨_,e0,hL⟩,_,_,rfl,⟨e1,z1⟩,rfl⟩ ⟨hM,ha0,hk⟩ K t f
 cases e0
 cases e1
 dsimp only at hc hL hM ha0 hk t f
 have hvf:=hL.hf
 have hok:SD (c,L,a,()) (L.take a.toNat):=⟨hM,ha0,fun y h=>hk a.toNat (by omega) y h,fun x hx=>by
  obtain ⟨i,hi⟩:=Zr0 hx
  rw [Zrm] at hi
  split at hi
  ·exact hk i (by omega) x hi
  ·cases hi⟩
 have hidx:=fun (u:AV) (hu:Ls ftC (L.take a.toNat) u) (Q:AV→St→Prop) s k r0 r1 r2 (g0:s.get r0=some (.row 24 c.c)) (g1:s.get r1=some (.row 31 [v])) (g2:s.get r2=some (.row 3 [.int .i64 a]))=>@Ie _ ix192 e 154 s Q h154 u 192 [.ptr r0 0,.ptr r1 0,.ptr r2 0] [.fp c.c,.fp [v],.fp [.int .i64 a]] (L.take a.toNat,(c,L,a,()),()) ⟨_,_,rfl,⟨_,rfl,hu⟩,_,_,rfl,⟨_,_,rfl,⟨rfl,hc⟩,_,_,rfl,⟨_,rfl,hL⟩,_,_,rfl,⟨rfl,z1⟩,rfl⟩,rfl⟩ hok (.cons ⟨r0,24,_,rfl,rfl,g0,rfl⟩ (.cons ⟨r1,31,_,rfl,rfl,g1,by show (AM.hf v && true)=true;rw [hvf];rfl⟩ (.cons ⟨r2,3,_,rfl,rfl,g2,rfl⟩ .nil))) rfl k
 have hpe:(∃ x ∈ L.take a.toNat,KX (c,L,a,()) x)↔¬Gq L a.toNat:=by
  unfold Gq KX
  dsimp only
  obtain ⟨y,hy⟩:∃ y,L[a.toNat]?=some y:=⟨_,Zp9 (by omega)⟩
  rw [hy]
  constructor
  ·rintro ⟨x,hx,hp⟩ h
   obtain ⟨i,hi⟩:=Zr0 hx
   rw [Zrm] at hi
   split at hi
   ·exact h y rfl i (by omega) x hi (hp y rfl)
   ·cases hi
  ·intro h
   refine Classical.byContradiction fun hn=>h fun z hz i hi x hx hm=>hn ⟨x,Zqv (i:=i) (by rw [Zrm,Zqd hi];exact hx),fun w hw=>?_⟩
   cases hz;cases hw;exact hm
 change VW P e 0 _ (Ah [.agg c.c,v,.int .i64 a] 0 .lf) St0 none [] _
 obtain ⟨i,rfl⟩:∃ i:Nat,a=i:=⟨a.toNat,by omega⟩
 rw [Int.toNat_natCast] at *
 have hcl:=hL.cell
 conv=>whnf
 repeat' (first|(refine Xg h107 (p:=KX (c,L,(i:Int),())) (xs:=L.take i) (fun Q k=>hidx u hu Q _ k _ _ _ rfl (by show some (AObj.row 31 (cellsOf v))=_;rw [hcl]) rfl) (fun q=>?_) (fun q=>?_) <;> conv=>whnf)|((first|refine Nu rfl hL rfl rfl (show i≤L.length by omega) (fun u hu=>?_)|refine Dy (by show Nat.beq (A6 (cellsOf v)) 1=true;rw [hcl];rfl) ?_|refine BA v (by show load1 1 0 _=_;exact Qw (r:=1) (e:=31) (cs:=[v]) (by show some (AObj.row 31 (cellsOf v))=_;rw [hcl]) rfl) ?_|refine An ?_|refine As ?_);conv=>whnf)|fail)
 ·exact f (hpe.1 q) _
 ·exact t (Classical.byContradiction fun h=>q (hpe.2 h)) _
noncomputable def ix152:Fn (List Nat×Unit×Unit):=C8 Ce.u8 152 .nil (fun _ _=>True) fun _ s=>s≠0
theorem Zjx (h152:Inl e 152 Zpz [.tmp 2]):EU e Ce.u8 one 152 .nil (fun _ _=>True) (fun (_:Unit) s=>s≠0):=by
 rintro c q xs s l rfl _ _ ⟨rfl,hs⟩ Q y n
 refine ECall.inl h152.O h152.G ?_
 change VE e _ (Ah [.int .u8 (s:Int)] 0 .lf) _ none [] _
 conv=>whnf
 repeat' (first|refine v6 ?_ ?_|(intro _;first|omega|conv=>whnf))
 all_goals first
  | exact y (by omega) _
  | exact n (by omega) _
noncomputable def fchF:Fn (Cfg×List Fl×Unit):=cF (.g cfgC (.v ftC.sl .nil)) (fun _=>True) fun x=>x.1.may∧EF x.1 x.2.1
set_option maxHeartbeats 2000000 in
theorem Zik (hE:EM P e) (h103:Con e 103 cfgF.O) (h150:Con e 150 fonF.O) (h151:Inl e 151 XF [.tmp 4]) (h153:Con e 153 ffsF.O) (h191:Con e 191 (relS (BO ix152.R))):OvOk P 106 fchF.O:=by
 refine Jo hE g106 ?_
 rintro ⟨c,L,_⟩ _ ⟨_,_,rfl,⟨rfl,hc⟩,v,_,rfl,⟨_,e0,hL⟩,rfl⟩-K t f
 cases e0
 dsimp only at t f hc hL
 have hvf:=hL.hf
 obtain ⟨cs,hs',hl,hn⟩:=hL.nth
 change VW P e 0 _ (Ah [.agg c.c,v] 0 .lf) St0 none [] _
 by_cases hM:c.may
 ·have hcf:=Sp h103 hc hM
  replace t:=fun q=>t ⟨hM,q⟩
  replace f:=fun (q:¬EF c L)=>f fun q'=>q q'.2
  have hc2:=fun y l (hy:ftC.r y l) (Q:AV→St→Prop) s a b=>@bF.u _ _ _ _ e 150 s Q [.agg c.c,.agg l] h150 (c,y,()) ⟨_,_,rfl,⟨rfl,hc⟩,_,_,rfl,hy,rfl⟩ hM a b
  have hc4:∀ i:Nat,i<L.length→(∀ k≤i,∀ y,L[k]?=some y→B2 c y.2.1)→∀ (Q:AV→St→Prop) s,(Gq L i→Q (.bool true) s)→(¬Gq L i→Q (.bool false) s)→ESc e 153 [.agg c.c,v,.int .i64 (i:Int)] s Q:=fun i hi hS Q s a b=>@bF.u _ _ _ _ e 153 s Q _ h153 (c,L,(i:Int),()) ⟨_,_,rfl,⟨rfl,hc⟩,_,_,rfl,⟨_,rfl,hL⟩,_,_,rfl,⟨rfl,AW (show Aa (i:Int) by unfold Aa;omega)⟩,rfl⟩ ⟨hM,⟨Zrs _,Int.ofNat_lt.2 hi⟩,fun k hk=>hS k (Int.ofNat_le.1 hk)⟩ a b
  have hc3:=fun (st:List Nat) (u:AV) (hu:Ls Ce.u8 st u) (Q:AV→St→Prop) s k=>@Ie _ ix152 e 191 s Q h191 u 152 [] [] (st,(),()) ⟨_,_,rfl,⟨_,rfl,hu⟩,_,_,rfl,rfl,rfl⟩ trivial .nil rfl k
  replace hc3:=fun (st:List Nat) (u:AV) (hu:Ls Ce.u8 st u) (Q:AV→St→Prop) s y n=>Zn4 (k:=Q) (s:=s) h151 (p:=fun (s:Nat)=>s≠0) (xs:=st) (fun Q k=>hc3 st u hu Q s k) y n
  unfold EF at t f
  conv=>whnf
  repeat' (first|((first|refine hcf _ _ ?_|refine AA rfl hs' ?_);conv=>whnf)|refine v3 ?_ ?_|refine v6 ?_ ?_|(intro _;first|omega|conv=>whnf))
  ·exact f (fun q=>by omega) _
  have h8:L.length≤8:=by omega
  refine Ax hE L.length (fun i=>[(1,v),(2,.ptr 0 0),(16,v),(17,.int .i64 (L.length:Int)),(18,.int .i64 (i:Int))]) (fun _=>[.row 24 c.c]) (fun i=>∀ k<i,∀ y,L[k]?=some y→Hp c L k y) (fun k h=>by omega) (Abs.tells (rs:=[0]) .a) ?_
  intro i hi hI
  by_cases hlt:i<L.length
  ·obtain ⟨y,l,r,hx,hcr,hd'⟩:=hn i hlt
   have hN:¬Hp c L i y→∀ s,K (.int .i64 8) s:=fun h=>f fun q=>h (q.2 i hlt y hx)
   have hT:Hp c L i y→∀ k<i+1,∀ y,L[k]?=some y→Hp c L k y:=fun h=>AR hI fun z hz=>by rw [hx] at hz;cases hz;exact h
   have hc2:=hc2 y l hcr
   have hc4:=fun h=>hc4 i hlt fun j hk z hz=>(by
    rcases Nat.lt_or_eq_of_le hk with hk|rfl
    ·obtain ⟨n,⟨k,a,m,d⟩,st,sq,da⟩:=z
     exact (hI j hk _ hz).1.2.1
    ·rw [hx] at hz;cases hz;exact h:B2 c z.2.1)
   obtain ⟨n,⟨k,a,m,d⟩,st,sq,da⟩:=y
   obtain ⟨dv,tv,qv,av,rfl,o1,o2,o3,o4,-,h2,-⟩:=De hcr
   have hc3:=hc3 st tv h2
   have hwt:¬(∃ x ∈ st,x≠0)↔Rv (n,(k,a,m,d),st,sq,da):=by
    unfold Rv
    dsimp only
    constructor
    ·intro h j hj s hs
     exact Classical.byContradiction fun q=>h ⟨s,Zqv hs,q⟩
    ·rintro h ⟨s,hs,q⟩
     obtain ⟨j,hj⟩:=Zr0 hs
     exact q (h j (Zqa.1 hj).1 s hj)
   dsimp only at hc2 hc4
   clear t f hI
   by_cases h0:0<i
   ·obtain ⟨⟨n',⟨k',a',m',d'⟩,st',sq',da'⟩,l',r',hx',hc',hd2⟩:=hn (i-1) (by omega)
    obtain ⟨dv',tv',qv',av',rfl,-⟩:=De hc'
    conv=>whnf
    repeat' (first|(refine hc2 _ _ (fun hq=>?_) (fun hq=>?_) <;> conv=>whnf)|(refine hc3 _ _ (fun hw=>?_) (fun hw=>?_) <;> conv=>whnf)|(refine hc4 hq.2.1 _ _ (fun hr=>?_) (fun hr=>?_) <;> conv=>whnf)|((first|refine BS rfl hs' rfl (show (i:Int)-1=((i-1:Nat):Int) by omega) (by omega) hd2 ?_|refine Am hs' hlt hd' ?_|refine A7 (cs:=[.int .i64 n,.int .u8 (k:Int),.int .i64 a,.int .i64 m,dv,tv,qv,av]) rfl ?_|refine Ap ?_|refine v7 ?_|refine v8 ?_|refine An ?_|refine As ?_|refine ⟨rfl,?_⟩);conv=>whnf)|refine v1 ?_ ?_|refine v2 ?_ ?_|refine v3 ?_ ?_|(intro _;first|omega|conv=>whnf))
    all_goals first
     | exact hN (fun q=>hq q.1) _
     | exact hN (fun q=>by have:=q.2.1 h0 _ hx';dsimp only at this;omega) _
     | exact hN (fun q=>q.2.2.elim (fun w=>hwt.2 w hw) hr) _
     | exact ⟨hlt,hT ⟨hq,fun _ x hx2=>by rw [hx'] at hx2;cases hx2;dsimp only;omega,.inr hr⟩,Abs.tells (rs:=[0]) .a⟩
     | exact ⟨hlt,hT ⟨hq,fun _ x hx2=>by rw [hx'] at hx2;cases hx2;dsimp only;omega,.inl (hwt.1 hw)⟩,Abs.tells (rs:=[0]) .a⟩
   ·conv=>whnf
    repeat' (first|(refine hc2 _ _ (fun hq=>?_) (fun hq=>?_) <;> conv=>whnf)|(refine hc3 _ _ (fun hw=>?_) (fun hw=>?_) <;> conv=>whnf)|(refine hc4 hq.2.1 _ _ (fun hr=>?_) (fun hr=>?_) <;> conv=>whnf)|((first|refine Am hs' hlt hd' ?_|refine A7 (cs:=[.int .i64 n,.int .u8 (k:Int),.int .i64 a,.int .i64 m,dv,tv,qv,av]) rfl ?_|refine Ap ?_|refine v7 ?_|refine An ?_|refine As ?_|refine ⟨rfl,?_⟩);conv=>whnf)|refine v1 ?_ ?_|refine v3 ?_ ?_|(intro _;first|omega|conv=>whnf))
    all_goals first
     | exact hN (fun q=>hq q.1) _
     | exact hN (fun q=>q.2.2.elim (fun w=>hwt.2 w hw) hr) _
     | exact ⟨hlt,hT ⟨hq,fun h=>absurd h h0,.inr hr⟩,Abs.tells (rs:=[0]) .a⟩
     | exact ⟨hlt,hT ⟨hq,fun h=>absurd h h0,.inl (hwt.1 hw)⟩,Abs.tells (rs:=[0]) .a⟩
  ·conv=>whnf
   repeat' (first|refine v1 ?_ ?_|(intro _;first|omega|conv=>whnf))
   exact t ⟨h8,fun k hk=>hI k (by omega)⟩ _
 ·have hcf:=Sq h103 hc hM
  conv=>whnf
  repeat' (first|(refine hcf _ _ ?_;conv=>whnf)|refine v6 ?_ ?_|(intro _;first|omega|conv=>whnf))
  exact f (fun q=>hM q.1) _
def zLv:Lv:=⟨0,0,0,false,false,false⟩
def D4 (L:List Lv) (s:Int):Lv:=if 0≤AJ L s L.length then (L[(AJ L s L.length).toNat]?).getD zLv else zLv
def G4 (L:List Lv) (s:Int):Bool:=decide (0≤AJ L s L.length)
def mlsF:Fn (Dv×Int×Unit):=⟨.g dvC (.v i64C .nil),fun _=>True,fun x=>.tup [.agg (D4 x.1.2.2.2.2.1.2.2.2.2 x.2.1).c,.bool (G4 x.1.2.2.2.2.1.2.2.2.2 x.2.1)]⟩
def Xe:AC:=match a58 with|.mk c _=>c
def XK:AC:=match Fq Xe with|some (a,_)=>a|none=>.skip
def Xi:AC:=match Fq Xe with|some (_,b)=>b|none=>.skip
noncomputable def Sy:AT:=A5 [(3,.ptr 0 0),(4,.ptr 1 0),(5,.ptr 2 0),(11,.fn 155 [] [.ptr 3 0])]
theorem Zhc (hE:EM P e) (h111:Inl e 111 Rm [.tmp 2]):OvOk P 58 mlsF.O:=by
 refine Bs g58.b ?_
 rintro ⟨⟨c,bk,⟨ev,lo,sp,po,dn,nl,br⟩,hs,⟨ag,sq,tl,us,L⟩,fs,nx,so⟩,s,_⟩ _ ⟨_,_,rfl,hd,_,_,rfl,⟨e1,z1⟩,rfl⟩ -
 cases e1
 obtain ⟨hv,lv,fv,rfl,⟨ho,o1,o2,o3,o4,o5,o6,o7,o8,oN⟩,hH,hL,hF⟩:=Bl hd
 obtain ⟨ls,hs2,hl2,hn2⟩:=hL.lv
 have hvf:=hL.hf
 have hcl:=hL.cell
 refine ⟨rfl,C.of_G hE g58 ?_⟩
 have fin:∀ st x b,D4 L s=x→G4 L s=b→Frz st (.tup [.agg x.c,.bool b]) (mlsF.out ((c,bk,(ev,lo,sp,po,dn,nl,br),hs,(ag,sq,tl,us,L),fs,nx,so),s,())):=by
  rintro st x b rfl rfl;exact .plain _ rfl
 generalize mlsF.out _=O at fin ⊢
 unfold D4 G4 at fin
 change VW P e 0 _ (Ah [_,.int .i64 s] 0 .lf) St0 none [] _
 conv=>whnf
 repeat' (first|(refine Dy (by show Nat.beq (A6 (cellsOf lv)) 1=true;rw [hcl];rfl) ?_;rw [hcl];conv=>whnf)|(refine ESc.inl h111 ?_;conv=>whnf)|fail)
 refine W.abs [(3,.ptr 0 0),(4,.ptr 1 0),(5,.ptr 2 0),(11,.fn 155 [] [.ptr 3 0])] [.row 3 [.int .i64 s],.row 128 zLv.c,.row 4 [.bool false],.row 28 [lv]] [1,2,3,4] ⟨by decide,⟨r9,r9,r9,r9,trivial⟩,⟨r9,r9,r9,⟨?_,?_⟩,trivial⟩⟩ ?_
 ·show (bd _ lv && true)=true;rw [Dd _ hvf];rfl
 ·show _=some (AObj.row 28 [AY _ lv]);rw [CO _ hvf];rfl
 refine OC (f:=155) (first:=[]) (cap:=[.ptr 3 0]) g155.b rfl ?_ ?_
 ·intro q hq
  have hq:q<4:=hq
  rcases q with _|_|_|_|q
  ·exact .tmp 3 (.ptr 0 0) rfl rfl
  ·exact .tmp 4 (.ptr 1 0) rfl rfl
  ·exact .tmp 5 (.ptr 2 0) rfl rfl
  ·exact .tmp 11 (.fn 155 [] [.ptr 3 0]) rfl rfl
  ·omega
 show C1 P 155 [.yld 5,.ptr 3 0] (Al St0 [.row 3 [.int .i64 s],.row 128 zLv.c,.row 4 [.bool false],.row 28 [lv],.defd,.loop .ready none 0 Sy [12,13] XK Xi 4]) (fun _ s'=>Kw 5 [4] Sy s' _)
 refine C1.of_G hE g155 ?_;conv=>whnf
 refine Ai hs2 ?_;conv=>whnf
 repeat' (first|(refine v8 ?_;conv=>whnf)|fail)
 refine WC (α:=Nat) (fun j=>[(0,.yld 5),(1,.ptr 3 0),(3,.int .i64 ((j:Int)-1))]) (fun _=>[.row 3 [.int .i64 s],.row 128 zLv.c,.row 4 [.bool false],.row 28 [lv],.defd,.loop .ready none 0 Sy [12,13] XK Xi 4]) (fun j=>j)
  (fun j=>j≤L.length∧AJ L s L.length=AJ L s j) L.length [0,1,2,3,4,5] ⟨Zqu _,rfl⟩ ?_ ?_
 ·refine ⟨rfl,by decide,⟨r9,r9,r9,trivial⟩,⟨r9,r9,r9,⟨?_,?_⟩,r9,r9,trivial⟩⟩
  ·show (bd _ lv && true)=true;rw [Dd _ hvf];rfl
  ·show _=some (AObj.row 28 [AY _ lv]);rw [CO _ hvf];rfl
 rintro j ⟨hj,hh⟩
 refine Cy hE ?_;conv=>whnf
 refine DF rfl rfl (fun h=>?_) (fun h=>?_) <;> conv=>whnf
 ·obtain ⟨i,rfl⟩:∃ i,j=i+1:=⟨j-1,by omega⟩
  have hlt:i<L.length:=by omega
  obtain ⟨sq',st',bl',pa,su,ho',r,hx,hx',hd2⟩:=hn2 i hlt
  rw [show ((i+1:Nat):Int)-1=(i:Int) by omega]
  replace hh:AJ L s L.length=if L[i]?.map Lv.stripe=some s then (i:Int) else AJ L s i:=hh
  rw [hx] at hh
  replace hh:AJ L s L.length=if st'=s then (i:Int) else AJ L s i:=by
   rw [hh]
   show (if some st'=some s then (i:Int) else _)=_
   simp only [Option.some.injEq]
  refine Am hs2 hlt hd2 ?_;conv=>whnf
  refine A7 (cs:=[.int .u32 sq',.int .i64 st',.int .i64 bl',.bool pa,.bool su,.bool ho']) rfl ?_;conv=>whnf
  refine ERound.mk ?_
  by_cases hse:st'=s
  ·subst hse
   rw [Zqd rfl] at hh
   rw [hh,Zqd (by omega),Int.toNat_natCast,hx,Zqe (by omega)] at fin
   conv=>whnf
   repeat' (first|(refine As ?_;conv=>whnf)|refine v5 ?_ ?_|(intro _;first|omega|conv=>whnf))
   exact fin _ _ _ rfl rfl
  ·rw [Zqh hse] at hh
   conv=>whnf
   repeat' (first|((first|refine v8 ?_|refine An ?_|refine ⟨rfl,?_⟩);conv=>whnf)|refine v5 ?_ ?_|(intro _;first|omega|conv=>whnf))
   refine ⟨i,⟨by omega,hh⟩,by omega,[0,1,2,3,4,5],rfl,by decide,⟨r9,r9,r9,trivial⟩,⟨r9,r9,r9,⟨?_,?_⟩,r9,r9,trivial⟩⟩
   ·show (bd _ lv && true)=true;rw [Dd _ hvf];rfl
   ·show _=some (AObj.row 28 [AY _ lv]);rw [CO _ hvf];rfl
 ·have:j=0:=by omega
  subst this
  rw [hh] at fin
  conv=>whnf
  exact fin _ _ _ rfl rfl
def S7 (c:Cfg) (w k:Int):Int:=(c.members-1-w % c.members+1+k) % c.members
def E7 (c:Cfg) (b:Int):Int:=S7 c (b / c.chunk / (c.members-1)) (BT c b)
noncomputable def sptF:Fn (Cfg×Int×Unit):=⟨.g cfgC (.v i64C .nil),fun x=>x.1.may∧0≤x.2.1∧x.2.1<B8 x.1,fun x=>.tup [.agg [.int .i64 (Bz x.1 x.2.1),.int .i64 (BT x.1 x.2.1),.int .i64 (E7 x.1 x.2.1)],.int .i64 0]⟩
def cd90:AC:=match MZ with|.mk c _=>c
theorem Zgi (hE:EM P e) (h41:Con e 41 blsF.O) (h89:Inl e 89 SI [.tmp 4,.tmp 5]) (h90:Inl e 90 cd90 [.tmp 4]) (h99:Inl e 99 SH [.tmp 2]):OvOk P 42 sptF.O:=by
 refine Bs g42.b ?_
 rintro ⟨c,b,_⟩ _ ⟨_,_,rfl,⟨rfl,hc⟩,_,_,rfl,⟨e1,z1⟩,rfl⟩ ⟨hM,hb⟩
 cases e1
 refine ⟨rfl,C.of_G hE g42 ?_⟩
 dsimp only at hM hb hc
 have hbl:∀ (Q:AV→St→Prop) s,Q (.tup [.int .i64 (B8 c),.int .i64 0]) s→ESc e 41 [.agg c.c] s Q:=fun Q s k=>Fn.u (F:=blsF) h41 (c,()) ⟨_,_,rfl,⟨rfl,hc⟩,rfl⟩ hM k
 have hmm:=B4 hM
 have hpl:=Mp hM hb
 have fin:∀ st x y z,x=Bz c b→y=BT c b→z=E7 c b→Frz st (.tup [.agg [.int .i64 x,.int .i64 y,.int .i64 z],.int .i64 0]) (sptF.out (c,b,())):=by
  rintro st x y z rfl rfl rfl;exact .plain _ rfl
 generalize sptF.out _=O at fin ⊢
 unfold E7 S7 at fin
 unfold Bz BT at fin hpl
 have hM':=hM
 unfold Cfg.may at hM'
 have hd0:=Int.ediv_nonneg hb.1 (show 0≤c.chunk by omega)
 have hd1:b / c.chunk≤b:=Int.ediv_le_self _ hb.1
 have hr0:=Zrt b (show c.chunk≠0 by omega)
 have hr1:=Zrv b (show 0<c.chunk by omega)
 have he0:=Int.ediv_nonneg hd0 (show 0≤c.members-1 by omega)
 have he1:b / c.chunk / (c.members-1)≤b / c.chunk:=Int.ediv_le_self _ hd0
 have hs0:=Zrt (b / c.chunk) (show c.members-1≠0 by omega)
 have hs1:=Zrv (b / c.chunk) (show 0<c.members-1 by omega)
 have hw0:=Zrt (b / c.chunk / (c.members-1)) (show c.members≠0 by omega)
 have hw1:=Zrv (b / c.chunk / (c.members-1)) (show 0<c.members by omega)
 have hpm:=DG (a:=b / c.chunk / (c.members-1)) (b:=c.chunk) (by omega) (by omega)
 generalize B8 c=B at *
 have hsum:-9223372036854775808≤b / c.chunk / (c.members-1)*c.chunk+b % c.chunk∧b / c.chunk / (c.members-1)*c.chunk+b % c.chunk≤9223372036854775807:=by
  have h1:b / c.chunk / (c.members-1)*c.chunk≤1000*8:=Int.mul_le_mul (by omega) (by omega) (by omega) (by decide)
  have h2:0≤b / c.chunk / (c.members-1)*c.chunk:=Int.mul_nonneg he0 (by omega)
  omega
 change VW P e 0 _ (Ah [.agg c.c,.int .i64 b] 0 .lf) St0 none [] _
 conv=>whnf
 repeat' (first|((first|refine hbl _ _ ?_|refine ESc.inl h89 ?_|refine ESc.inl h90 ?_|refine ESc.inl h99 ?_|refine HG rfl rfl (by omega) ?_|refine JH rfl rfl (by omega) ?_|refine Cl rfl rfl hpm ?_|refine v7 ?_|refine v8 ?_|refine ⟨rfl,?_⟩);conv=>whnf)|refine v1 ?_ ?_|refine v4 ?_ ?_|refine v6 ?_ ?_|(intro _;first|omega|conv=>whnf))
 exact fin _ _ _ _ rfl rfl rfl
def spC:Ce (Int×Int×Int):=i64C.pr (i64C.pr i64C)
def Zp1:AC:=match PQ with|.mk c _=>c
def Sm (s:(Int×Int×Int)×Unit) (xs:List Hd):Prop:=∀ h ∈ xs,0≤s.1.2.1∧s.1.2.1<h.2.2.1.length
def Pc (s:(Int×Int×Int)×Unit) (h:Hd):Prop:=h.1=s.1.1∧h.2.2.2.1≤1∧h.2.2.1[s.1.2.1.toNat]?=some true
noncomputable def ix109:Fn (List Hd×((Int×Int×Int)×Unit)×Unit):=C8 hdC 109 (.p spC .nil) Sm Pc
theorem Zjz (h109:Inl e 109 Zp1 [.tmp 3]):EU e hdC AV.agg 109 (.p spC .nil) Sm Pc:=by
 rintro ⟨⟨s,k,m⟩,_⟩ q xs ⟨st,bl,di,ph,de,sq⟩ l ⟨_,_,rfl,⟨_,_,rfl,⟨rfl,-⟩,_,_,rfl,⟨rfl,-⟩,rfl,-⟩,rfl⟩ hok hmem hx Q t f
 have hk:=hok _ hmem
 obtain ⟨bv,dv,rfl,h1,h2,h3,h4,-⟩:=Cn hx
 obtain ⟨ds,hs',hl',hn'⟩:=h3.nth
 dsimp only at hk
 obtain ⟨g,_,l',hg,rfl,hd'⟩:=hn' k.toNat (by omega)
 unfold Pc at t f
 dsimp only at t f
 rw [hg] at t f
 refine ECall.inl h109.O h109.G ?_
 change VE e _ (Ah [.agg [.int .i64 st,bv,dv,.int .u8 (ph:Int),.bool de,.int .u32 sq],.fp [.int .i64 s,.int .i64 k,.int .i64 m]] 0 .lf) _ none [] _
 cases g
 all_goals
  conv=>whnf
  repeat' (first|((first|refine Ap ?_|refine BS rfl hs' rfl (show k=(k.toNat:Nat) by omega) (by omega) hd' ?_);conv=>whnf)|refine v2 ?_ ?_|refine v5 ?_ ?_|(intro _;first|omega|conv=>whnf))
  all_goals first
   | exact t ⟨by omega,by omega,rfl⟩ _
   | exact f (fun q=>by have:=q.1;omega) _
   | exact f (fun q=>by have:=q.2.1;omega) _
   | exact f (fun q=>nomatch q.2.2) _
variable {c:Cfg}{hs:List Hd}
theorem Wp {b:Int}(hsh:Cc c hs):Ep c hs b↔∃ h ∈ hs,h.1=Bz c b∧h.2.2.2.1≤1∧h.2.2.1[(BT c b).toNat]?=some true:=by
 unfold Ep
 constructor
 ·rintro ⟨h0,h1⟩
  rw [← RH] at h0 h1
  have hlt:=Zhq (fun h:Hd=>h.1=Bz c b) hs
  obtain ⟨x,hx⟩:∃ x,hs[(C3 (fun h:Hd=>h.1=Bz c b) hs).toNat]?=some x:=⟨_,Zp9 (by omega)⟩
  refine ⟨x,Zqv hx,?_,h1 x hx⟩
  classical
  unfold C3 at hx h0
  split at hx
  ·rename_i i hi
   have:=List.findIdx?_eq_some_iff_getElem.1 hi
   obtain ⟨h2,h3,-⟩:=this
   rw [Int.toNat_natCast,Zp9 h2] at hx
   cases hx
   simpa using h3
  ·rename_i hi
   rw [hi] at h0
   exact absurd h0 (by decide)
 ·rintro ⟨x,hx,h1,h2⟩
  obtain ⟨i,hi⟩:=Zr0 hx
  have hil:=(Zqa.1 hi).1
  have hp:A9 hs (Bz c b)=i:=Q5 hi h1 fun j hj g hg e=>(hsh.1 i hil x hi).2 j hj g hg (by rw [e,h1])
  rw [hp]
  refine ⟨by omega,fun h hh=>?_⟩
  rw [Int.toNat_natCast,hi] at hh
  cases hh
  exact h2
noncomputable def mhlF:Fn (Dv×Unit):=bF (.g dvC .nil) (fun x=>x.1.1.may∧Cc x.1.1 x.1.2.2.2.1∧EF x.1.1 x.1.2.2.2.2.2.1) fun x=>K8 x.1.1 x.1.2.2.2.1 x.1.2.2.2.2.2.1
set_option maxHeartbeats 2000000 in
theorem Zhf (hE:EM P e) (h42:Con e 42 sptF.O) (h55:Inl e 55 SF [.tmp 4]) (h110:Con e 110 (relS (BO ix109.R))):OvOk P 53 mhlF.O:=by
 refine Bo hE g53 ?_
 rintro ⟨⟨c,bk,⟨ev,lo,sp,po,dn,nl,br⟩,hs,⟨ag,sq,tl,us,L⟩,fs,nx,so⟩,_⟩ _ ⟨_,_,rfl,hd,rfl⟩ ⟨hM,hSh,hFs⟩ K t f
 obtain ⟨hv,lv,fv,rfl,ho,hH,hL,hF⟩:=Bl hd
 have hrow:=dvC.hf hd
 obtain ⟨ks,hs2,hl2,hn2⟩:=hF.nth
 have hfv:=hF.hf
 dsimp only at t f hM hSh hFs
 have hsp:∀ b,0≤b∧b<B8 c→∀ (Q:AV→St→Prop) s',Q (.tup [.agg [.int .i64 (Bz c b),.int .i64 (BT c b),.int .i64 (E7 c b)],.int .i64 0]) s'→ESc e 42 [.agg c.c,.int .i64 b] s' Q:=fun b hb Q s' k=>Fn.u (F:=sptF) h42 (c,b,()) ⟨_,_,rfl,⟨rfl,ho.1⟩,_,_,rfl,⟨rfl,AW (show Aa b by have:=B4 hM;unfold Aa;omega)⟩,rfl⟩ ⟨hM,hb.1,hb.2⟩ k
 have hsn:∀ b,0≤b∧b<B8 c→Aa (E7 c b):=fun b hb=>by
  unfold Cfg.may at hM
  unfold E7 S7
  have h1:=Zrt (c.members-1-b / c.chunk / (c.members-1) % c.members+1+BT c b) (show c.members≠0 by omega)
  have h2:=Zrv (c.members-1-b / c.chunk / (c.members-1) % c.members+1+BT c b) (show 0<c.members by omega)
  unfold Aa;omega
 have hcn:∀ b,0≤b∧b<B8 c→∀ r (Q:AV→St→Prop) s',s'.get r=some (.row 105 [.int .i64 (Bz c b),.int .i64 (BT c b),.int .i64 (E7 c b)])→(Ep c hs b→Q (.bool true) s')→(¬Ep c hs b→Q (.bool false) s')→ESc e 55 [hv,.fn 109 [] [.ptr r 0]] s' Q:=fun b hb r Q s' hr y n=>by
  have hpl:=Mp hM hb
  have hmm:=B4 hM
  have hM':=hM
  unfold Cfg.may at hM'
  have w1:=AW (show Aa (Bz c b) by unfold Aa;omega)
  have w2:=AW (show Aa (BT c b) by unfold Aa;omega)
  have hok:Sm ((Bz c b,BT c b,E7 c b),()) hs:=fun h hh=>by
   obtain ⟨i,hi⟩:=Zr0 hh
   have:=(hSh.1 i (Zqa.1 hi).1 h hi).1
   obtain ⟨st,bl,di,ph,de,sq⟩:=h
   unfold DD at this
   have:=this.2.2.1
   dsimp only
   omega
  refine XE h55 (p:=Pc ((Bz c b,BT c b,E7 c b),())) (xs:=hs) (fun Q k=>@Ie _ ix109 e 110 s' Q h110 hv 109 [.ptr r 0] [.fp [.int .i64 (Bz c b),.int .i64 (BT c b),.int .i64 (E7 c b)]] (hs,((Bz c b,BT c b,E7 c b),()),()) ⟨_,_,rfl,⟨_,rfl,hH⟩,_,_,rfl,⟨_,_,rfl,⟨[_],_,rfl,⟨rfl,w1⟩,[_],_,rfl,⟨rfl,w2⟩,rfl,AW (hsn b hb)⟩,rfl⟩,rfl⟩ hok (.cons ⟨r,105,_,rfl,rfl,hr,rfl⟩ .nil) rfl k) (fun q=>y ((Wp hSh).2 q)) fun q=>n fun h=>q ((Wp hSh).1 h)
 conv=>whnf
 repeat' (first|(refine Ai hs2 ?_;conv=>whnf)|fail)
 refine Ax hE fs.length (fun i=>[(1,.ptr 0 0),(11,fv),(12,.int .i64 (fs.length:Int)),(13,.int .i64 (i:Int))]) (fun _=>[.row 33 (c.c++[.bool bk,.int .u32 ev,.int .i64 lo,.bool sp,.int .i64 po,.int .i64 dn,.bool nl,.bool br,hv,.int .u32 ag,.int .u32 sq,.int .i64 tl,.int .i64 us,lv,fv,.int .i64 nx,.bool so])]) (fun i=>∀ j<i,∀ f,fs[j]?=some f→RI c hs f) (fun k h=>by omega) (Abs.tells (rs:=[0]) .a) ?_
 intro i hi hI
 by_cases hlt:i<fs.length
 ·obtain ⟨⟨n,⟨k,a,m,d⟩,st,sqs,da⟩,_,r,hx,hxr,hd'⟩:=hn2 i hlt
  have hfr:=ftC.hf hxr
  obtain ⟨ev',tv,qv,av,rfl,p1,p2,p3,p4,g1,g2,g3,g4⟩:=De hxr
  obtain ⟨ts,hs3,hl3,hn3⟩:=g2.nth
  have htv:=g2.hf
  have hef:=(hFs.2 i hlt _ hx).1
  conv=>whnf
  repeat' (first|((first|refine Am hs2 hlt hd' ?_|refine A7 (cs:=[.int .i64 n,.int .u8 (k:Int),.int .i64 a,.int .i64 m,ev',tv,qv,av]) rfl ?_|refine Ai hs3 ?_);conv=>whnf)|refine v1 ?_ ?_|(intro _;first|omega|conv=>whnf))
  refine Ax hE st.length (fun k'=>[(1,.ptr 0 0),(4,.ptr 1 0),(11,fv),(12,.int .i64 (fs.length:Int)),(13,.int .i64 (i:Int)),(18,tv),(19,.int .i64 (st.length:Int)),(20,.int .i64 (k':Int))]) (fun _=>[.row 33 (c.c++[.bool bk,.int .u32 ev,.int .i64 lo,.bool sp,.int .i64 po,.int .i64 dn,.bool nl,.bool br,hv,.int .u32 ag,.int .u32 sq,.int .i64 tl,.int .i64 us,lv,fv,.int .i64 nx,.bool so]),.row 143 [.int .i64 n,.int .u8 (k:Int),.int .i64 a,.int .i64 m,ev',tv,qv,av]]) (fun k'=>∀ j<k',st[j]?=some 1→Ep c hs (a+(j:Int))) (fun k h=>by omega) (Abs.tells (rs:=[0,1]) .a) ?_
  intro k' hk' hK
  by_cases hkt:k'<st.length
  ·obtain ⟨s1,_,r3,hx3,⟨rfl,hb3⟩,hd3⟩:=hn3 k' hkt
   have hb:=Wx hef hkt
   have hbm:=(B4 hM).2
   have hsp:=hsp _ hb
   have hcn:=hcn _ hb
   have hN:s1=1→¬Ep c hs (a+k')→∀ s,K (.bool false) s:=fun e h=>f fun q=>h (q i hlt _ hx k' hkt (by subst e;exact hx3))
   have hY:(s1=1→Ep c hs (a+k'))→∀ j<k'+1,st[j]?=some 1→Ep c hs (a+(j:Int)):=fun h=>AR hK fun e=>by rw [hx3] at e;cases e;exact h rfl
   clear t f hI hK hn2 hn3
   generalize Bz c (a+k')=z1 at *
   generalize BT c (a+k')=z2 at *
   generalize E7 c (a+k')=z3 at *
   conv=>whnf
   repeat' (first|(refine hcn _ _ _ rfl (fun q=>?_) (fun q=>?_) <;> conv=>whnf)|((first|refine Am hs3 hkt hd3 ?_|refine Ap ?_|refine hsp _ _ ?_|refine v7 ?_|refine An ?_|refine As ?_|refine ⟨rfl,?_⟩);conv=>whnf)|refine v1 ?_ ?_|refine v5 ?_ ?_|(intro _;first|omega|conv=>whnf))
   all_goals first
    | exact hN (by omega) q _
    | exact ⟨hkt,hY (fun _=>q),Abs.tells (rs:=[0,1]) .a⟩
    | exact ⟨hkt,hY (fun e=>by omega),Abs.tells (rs:=[0,1]) .a⟩
  ·conv=>whnf
   repeat' (first|((first|refine v7 ?_|refine ⟨rfl,?_⟩);conv=>whnf)|refine v1 ?_ ?_|(intro _;first|omega|conv=>whnf))
   exact ⟨hlt,AR hI fun f e=>by rw [hx] at e;cases e;exact fun j hj=>hK j (by have:j<st.length:=hj;omega),Abs.tells (rs:=[0]) .a⟩
 ·conv=>whnf
  repeat' (first|refine v1 ?_ ?_|(intro _;first|omega|conv=>whnf))
  exact t (fun j hj=>hI j (by omega)) _
structure CLX where
 c:Cfg
 ag:Int
 sq:Int
 tl:Int
 us:Int
 v:AV
 n:Nat
 cs:List AV
structure CLX.ok (x:CLX):Prop where
 c:x.c.ok
 v:Sl 6 x.n x.cs x.v
 n:1000<x.n
def CLX.args (x:CLX):List AV:=[x.c.v,.agg [.int .u32 x.ag,.int .u32 x.sq,.int .i64 x.tl,.int .i64 x.us,x.v]]
def lchkX:Fam CLX:=⟨CLX.ok,CLX.args,fun _=>.int .i64 8,fun _ _ _ _ _=>rfl⟩
theorem Zej (hE:EM P e) (h78:Con e 103 cfgF.O) (h79:Inl e 149 Xd [.tmp 2]) (h38:Con e 40 stripesF.O) (h53:Con e 185 needF.O) (h122:Inl e 186 Oe [.tmp 2]):OvOk P 105 lchkX.O:=by
 refine Cx g105.b ?_
 intro x hx
 have hvf:=hx.v.hf
 refine ⟨by show (true && ((true && (true && (true && (true && (AM.hf x.v && true))))) && true))=true;rw [hvf];rfl,rfl,C.of_G hE g105 ?_⟩
 have hout:lchkX.out x=.int .i64 8:=rfl
 rw [hout]
 by_cases hM:x.c.may
 ·have hlog:=GF hM
  have hM':=hM
  unfold Cfg.may at hM'
  have hcfg:∀ (K:AV→St→Prop) (s:St),K (.int .i64 0) s→ESc e 103 [x.c.v] s K:=fun K s hk=>ESc.fam cfgF h78 x.c hx.c (by simp [cfgF,hM]) hk
  have hst:∀ (K:AV→St→Prop) (s:St),K (.tup [.int .i64 (x.c.chunk*x.c.rows),.int .i64 0]) s→ESc e 40 [x.c.v] s K:=fun K s hk=>ESc.fam stripesF h38 x.c hx.c (by simp [stripesF,hM]) hk
  have hnd:∀ (K:AV→St→Prop) (s:St),K (.tup [.int .i64 (x.c.members+1),.int .i64 0]) s→ESc e 185 [x.c.v] s K:=fun K s hk=>ESc.fam needF h53 x.c hx.c (by simp [needF,hM]) hk
  obtain ⟨⟨c1,c2,c3,c4,c5,c6⟩,ag,sq,tl,us,v,n,cs⟩:=x
  obtain ⟨hx1,hv,hn⟩:=hx
  dsimp only at hlog hM' hv hn
  conv=>whnf
  refine hcfg _ _ ?_;conv=>whnf
  repeat' (first|refine v6 ?_ ?_|(intro _;first|omega|conv=>whnf))
  refine ESc.inl h79 ?_;conv=>whnf
  refine hst _ _ ?_;conv=>whnf
  refine hnd _ _ ?_;conv=>whnf
  refine ESc.inl h122 (Nq e _ ag _ ?_)
  cases hA:FY ag <;> conv=>whnf
  ·repeat' (first|(refine As ?_;conv=>whnf)|fail)
   exact .plain _ rfl
  repeat' (first|(refine An ?_;conv=>whnf)|fail)
  refine ESc.inl h122 (Nq e _ sq _ ?_)
  cases hS:FY sq <;> conv=>whnf
  ·repeat' (first|(refine As ?_;conv=>whnf)|fail)
   exact .plain _ rfl
  repeat' (first|((first|refine Ai hv ?_|refine An ?_|refine As ?_);conv=>whnf)|refine v1 ?_ ?_|refine v3 ?_ ?_|refine v4 ?_ ?_|(intro _;first|omega|conv=>whnf))
  all_goals first|exact .plain _ rfl|(exfalso;dsimp only at *;omega)
 ·conv=>whnf
  refine ESc.fam cfgF h78 x.c hx.c (u:=.int .i64 8) (by simp [cfgF,hM]) ?_;conv=>whnf
  repeat' (first|refine v6 ?_ ?_|(intro _;first|omega|conv=>whnf))
  exact .plain _ rfl
def K6 (args:List AV) (u:AV):Prop:=(∃ x:CL,lchkF.ok x∧args=lchkF.enc x∧u=lchkF.out x)∨(∃ x:CLX,lchkX.ok x∧args=lchkX.enc x∧u=lchkX.out x)
theorem Zek (h1:OvOk P 105 lchkF.O) (h2:OvOk P 105 lchkX.O):OvOk P 105 (Ag K6):=by
 have key:∀ {α:Type}(F:Fam α) (x:α),F.ok x→∀ s,F.O (F.enc x) s=.ok (F.out x) s:=fun F x hx s=>by
  have h:∃ u,∃ y,F.ok y∧F.enc x=F.enc y∧u=F.out y:=⟨_,x,hx,rfl,rfl⟩
  unfold Fam.O Ag
  rw [dif_pos h]
  obtain ⟨y,hy,e1,e2⟩:=Zro h
  rw [e2,← F.inj x y hx hy e1]
 refine VY h1.1 fun args u hR s=>?_
 rcases hR with ⟨x,hx,rfl,rfl⟩|⟨x,hx,rfl,rfl⟩
 ·exact h1.2 _ s _ _ (key lchkF x hx s)
 ·exact h2.2 _ s _ _ (key lchkX x hx s)
theorem Zei {x:CL}{y:CLX}(hx:x.ok) (hy:y.ok) (h:x.args=y.args):False:=by
 have h1:=(Zql (Zql h).2).1
 have h2:x.v=y.v:=by
  have:=AV.agg.inj h1
  injection this with _ this
  injection this with _ this
  injection this with _ this
  injection this with _ this
  injection this
 have hn:=hy.n
 have hl:=hx.l.len
 have hv:Sl 6 x.l.live.length (EJ x.l.live) x.v:=hx.v
 rcases hv with ⟨e,e1,_⟩|⟨e,e1,_⟩|⟨c,e,_⟩ <;> rcases hy.v with ⟨f,f1,_⟩|⟨f,f1,_⟩|⟨d,f,_⟩ <;> rw [h2,f] at e <;> first|omega|(cases e;done)|skip
 injection e with e _ _
 omega
variable {s:St}
theorem ZW (h:Con e 105 (Ag K6)) {x:CL}(hx:x.ok) {K:AV→St→Prop}(hk:K (.int .i64 (if x.good then 0 else 8)) s):ESc e 105 x.args s K:=by
 refine ESc.rel h ⟨_,.inl ⟨x,hx,rfl,rfl⟩⟩ ?_
 rintro u (⟨y,hy,e1,rfl⟩|⟨y,hy,e1,rfl⟩)
 ·rw [← CL.inja hx hy e1];exact hk
 ·exact (Zei hx hy e1).elim
noncomputable def mlgF:Fn (List Lv×Unit):=bF (.v lvC.sl .nil) (fun _=>True) fun x=>Jy x.1
def Ej (L:List Lv):Nat→List Int
 | 0=>[]
 | i+1=>match L[i]? with
  | some x=>if x.home=true then Ej L i else Dh x.stripe (Ej L i)
  | none=>Ej L i
variable {k:Int}
theorem Zfo {n:Int}{l:List Int}:n ∈ Dh k l↔n=k∨n ∈ l:=by
 unfold Dh
 split
 ·rename_i h
  exact ⟨.inr,fun h'=>h'.elim (fun e=>e ▸ h) id⟩
 ·simp [or_comm]
theorem ksH_mem {L:List Lv}{n:Int}:∀ {i:Nat},n ∈ Ej L i↔∃ k,k<i∧∃ y,L[k]?=some y∧y.home=false∧y.stripe=n
 | 0=>⟨fun h=>(by cases h),fun ⟨k,h,_⟩=>(by omega)⟩
 | i+1=>by
  have ih:=@ksH_mem L n i
  have up:(∃ k,k<i∧∃ y,L[k]?=some y∧y.home=false∧y.stripe=n)→∃ k,k<i+1∧∃ y,L[k]?=some y∧y.home=false∧y.stripe=n:=fun ⟨k,h,g⟩=>⟨k,by omega,g⟩
  unfold Ej
  cases hx:L[i]? with
  | none=>
   dsimp only
   rw [ih]
   refine ⟨up,fun ⟨k,h,y,g1,g2⟩=>?_⟩
   rcases Zr1.1 h with h|rfl
   ·exact ⟨k,h,y,g1,g2⟩
   ·rw [hx] at g1;cases g1
  | some x=>
   dsimp only
   split
   ·rename_i hh
    rw [ih]
    refine ⟨up,fun ⟨k,h,y,g1,g2⟩=>?_⟩
    rcases Zr1.1 h with h|rfl
    ·exact ⟨k,h,y,g1,g2⟩
    ·rw [hx] at g1;cases g1;rw [hh] at g2;cases g2.1
   ·rename_i hh
    rw [Zfo,ih]
    constructor
    ·rintro (rfl|h)
     ·exact ⟨i,by omega,x,hx,by simpa using hh,rfl⟩
     ·exact up h
    ·rintro ⟨k,h,y,g1,g2,g3⟩
     rcases Zr1.1 h with h|rfl
     ·exact .inr ⟨k,h,y,g1,g2,g3⟩
     ·rw [hx] at g1;cases g1;exact .inl g3.symm
theorem Zhd (hE:EM P e):OvOk P 54 mlgF.O:=by
 refine Bo hE g54 ?_
 rintro ⟨L,_⟩ _ ⟨v,_,rfl,⟨_,e0,hL⟩,rfl⟩-K t f
 cases e0
 dsimp only at t f hL
 obtain ⟨cs,hs',hl,hn⟩:=hL.lv
 have hvf:=hL.hf
 unfold Jy at t f
 conv=>whnf
 repeat' (first|(refine AA rfl hs' ?_;conv=>whnf)|fail)
 refine KC hE (β:=List (AV×AV×Nat)×Nat) L.length (fun i b=>[(3,.map 0),(7,v),(8,.int .i64 (L.length:Int)),(9,.int .i64 (i:Int))]) (fun i b=>[.map b.1 b.2]) (fun i b=>KM (.int .i64 1) b.1 (Ej L i)∧∀ j<i,∀ x,L[j]?=some x→¬(x.home=true∧x.stripe ∈ Ej L j)) ([],0) ⟨KM.nil _,fun k h=>by omega⟩ (Abs.tells (rs:=[0]) .a) ?_
 rintro i ⟨es,N⟩ hi ⟨hK,hI⟩
 dsimp only at hK hI ⊢
 by_cases hlt:i<L.length
 ·obtain ⟨sq,st,bl,pa,su,ho,r,hx,hx',hd⟩:=hn i hlt
  have hks:Ej L (i+1)=if ho=true then Ej L i else Dh st (Ej L i):=by
   show (match L[i]? with|some x=>if x.home=true then Ej L i else Dh x.stripe (Ej L i)|none=>Ej L i)=_
   rw [hx]
  have hstep:∀ h:¬(ho=true∧st ∈ Ej L i),∀ j<i+1,∀ x,L[j]?=some x→¬(x.home=true∧x.stripe ∈ Ej L j):=fun h=>AR hI fun x e=>by rw [hx] at e;cases e;exact h
  have hyes:ho=true→st ∈ Ej L i→∀ s,K (.bool true) s:=fun h1 h2=>by
   obtain ⟨k,hk,y,g1,g2,g3⟩:=ksH_mem.1 h2
   exact t ⟨i,k,_,y,hk,hx,g1,h1,g3,g2⟩
  cases ho
  ·rw [Zqh Bool.false_ne_true] at hks
   conv=>whnf
   repeat' (first|(refine IG rfl rfl rfl rfl hK (fun es' N' hK'=>?_);conv=>whnf)|((first|refine Am hs' hlt hd ?_|refine A7 (cs:=[.int .u32 sq,.int .i64 st,.int .i64 bl,.bool pa,.bool su,.bool false]) rfl ?_|refine v7 ?_|refine As ?_|refine ⟨rfl,?_⟩);conv=>whnf)|refine v1 ?_ ?_|(intro _;first|omega|conv=>whnf))
   refine ⟨hlt,(es',N'),⟨by rw [hks];exact hK',hstep (fun q=>nomatch q.1)⟩,Abs.tells (rs:=[0]) ⟨by decide,⟨r9,t9,r9,r9,trivial⟩,⟨⟨DL rfl hK',?_⟩,trivial⟩⟩⟩
   show _=some (AObj.map (BV _ es') N');rw [DI rfl hK'];rfl
  ·rw [Zqd rfl] at hks
   conv=>whnf
   repeat' (first|(refine IH rfl rfl rfl hK (fun hin=>?_) (fun hin=>?_) <;> conv=>whnf)|((first|refine Am hs' hlt hd ?_|refine A7 (cs:=[.int .u32 sq,.int .i64 st,.int .i64 bl,.bool pa,.bool su,.bool true]) rfl ?_|refine v7 ?_|refine An ?_|refine ⟨rfl,?_⟩);conv=>whnf)|refine v1 ?_ ?_|refine v3 ?_ ?_|(intro _;first|omega|conv=>whnf))
   all_goals first
    | exact hyes rfl hin _
    | (refine ⟨hlt,(es,N),⟨by rw [hks];exact hK,hstep (fun q=>hin q.2)⟩,Abs.tells (rs:=[0]) ⟨by decide,⟨r9,t9,r9,r9,trivial⟩,⟨⟨DL rfl hK,?_⟩,trivial⟩⟩⟩
       show _=some (AObj.map (BV _ es) N);rw [DI rfl hK];rfl)
 ·conv=>whnf
  repeat' (first|refine v1 ?_ ?_|(intro _;first|omega|conv=>whnf))
  refine f ?_ _
  rintro ⟨j,k,x,y,h1,h2,h3,h4,h5,h6⟩
  have hj:=(Zqa.1 h2).1
  exact hI j (by omega) x h2 ⟨h4,ksH_mem.2 ⟨k,h1,y,h3,h6,h5⟩⟩
variable {L:List Lv}
theorem Zcj {s:Int}:Kp L s↔G4 L s=true∧(D4 L s).par=false:=by
 have hlt:=HQ L s L.length
 unfold Kp G4 D4
 rw [decide_eq_true_iff]
 constructor
 ·rintro ⟨h0,h1⟩
  rw [Zqd h0]
  obtain ⟨x,hx⟩:∃ x,L[(AJ L s L.length).toNat]?=some x:=⟨_,Zp9 (by omega)⟩
  exact ⟨h0,by rw [hx];exact h1 x hx⟩
 ·rintro ⟨h0,h1⟩
  rw [Zqd h0] at h1
  exact ⟨h0,fun x hx=>by rw [hx] at h1;exact h1⟩
variable {bl:List (List Nat)}{sq:Int}
theorem Zcl {st:Int}{di:List Bool}{ph:Nat}{de:Bool}:Dp L (st,bl,di,ph,de,sq)↔(de=true↔G4 L st=true∧(D4 L st).par=false)∧(2≤ph→G4 L st=true∧(D4 L st).seq=sq∧(D4 L st).par=true∧(D4 L st).home=false∧((D4 L st).sure=true↔ph≠2)):=by
 have hlt:=HQ L st L.length
 unfold Dp
 dsimp only
 rw [Zcj]
 refine and_congr_right fun _=>imp_congr_right fun _=>?_
 unfold G4 D4
 rw [decide_eq_true_iff]
 constructor
 ·rintro ⟨h0,h1⟩
  rw [Zqd h0]
  obtain ⟨x,hx⟩:∃ x,L[(AJ L st L.length).toNat]?=some x:=⟨_,Zp9 (by omega)⟩
  rw [hx]
  exact ⟨h0,h1 x hx⟩
 ·rintro ⟨h0,h1⟩
  rw [Zqd h0] at h1
  exact ⟨h0,fun x hx=>by rw [hx] at h1;exact h1⟩
noncomputable def mstF:Fn (Dv×Hd×Unit):=bF (.g dvC (.g hdC .nil)) (fun _=>True) fun x=>Dp x.1.2.2.2.2.1.2.2.2.2 x.2.1
set_option maxHeartbeats 2000000 in
theorem Zg7 (hE:EM P e) (h58:Con e 58 mlsF.O):OvOk P 57 mstF.O:=by
 refine Bo hE g57 ?_
 rintro ⟨⟨c,bk,⟨ev,lo,sp,po,dn,nl,br⟩,hs,⟨ag,sq,tl,us,L⟩,fs,nx,so⟩,⟨st,bl,di,ph,de,hq⟩,_⟩ _ ⟨_,_,rfl,hd,_,_,rfl,hh,rfl⟩-K t f
 have hst:=(Cn hh).choose_spec.choose_spec.2.1
 have hml:=fun (Q:AV→St→Prop) s' k=>@Fn.u _ e 58 s' Q mlsF [.agg _,.int .i64 st] h58 (_,st,()) ⟨_,_,rfl,hd,_,_,rfl,⟨rfl,AW hst⟩,rfl⟩ trivial k
 obtain ⟨hv,lv,fv,rfl,⟨ho,o1,o2,o3,o4,o5,o6,o7,o8,oN⟩,hH,hL,hF⟩:=Bl hd
 obtain ⟨bv,dv,rfl,g1,g2,g3,g4,g5⟩:=Cn hh
 dsimp only at t f
 rw [Zcl] at t f
 unfold mlsF at hml
 dsimp only at hml
 generalize G4 L st=B at *
 generalize D4 L st=x at *
 obtain ⟨xq,xs,xb,xp,xu,xh⟩:=x
 replace hml:∀ (Q:AV→St→Prop) s',Q (.tup [.agg [.int .u32 xq,.int .i64 xs,.int .i64 xb,.bool xp,.bool xu,.bool xh],.bool B]) s'→ESc e 58 _ s' Q:=hml
 dsimp only at t f
 clear hd hh hst hH hL hF
 change VW P e 0 _ (Ah [_,.agg [.int .i64 st,bv,dv,.int .u8 (ph:Int),.bool de,.int .u32 hq]] 0 .lf) St0 none [] _
 cases B <;> cases xp <;> cases de <;> cases xu <;> cases xh
 all_goals
  conv=>whnf
  repeat' (first|((first|refine hml _ _ ?_|refine An ?_|refine As ?_|refine Cp ?_);conv=>whnf)|refine v2 ?_ ?_|refine v3 ?_ ?_|refine v5 ?_ ?_|(intro _;first|omega|conv=>whnf))
  all_goals first
   | exact t (by simp <;> omega) _
   | exact f (by simp <;> omega) _
   | fail
def MU (c:Cfg):Lg→Prop
 | (ag,sq,tl,us,L)=>c.may∧En ⟨⟨ag,sq,tl,us,L⟩,c⟩=true
variable {v:AV}
theorem Ls.lsl (h:Ls lvC L v):LSl L v∧∀ x ∈ L,x.ok:=by
 obtain ⟨ls,a,s,_⟩:=h
 have key:∀ {L:List Lv}{ls:List (List AV)},All2 lvC.r L ls→ls.flatten=EJ L∧∀ x ∈ L,x.ok:=by
  intro L
  induction L with
  | nil=>intro _ h;cases h;exact ⟨rfl,fun x hx=>by cases hx⟩
  | cons x L ih=>
   intro _ h
   cases h with
   | cons h1 h2=>
    obtain ⟨e,g⟩:=ih h2
    obtain ⟨rfl,hx⟩:=h1
    refine ⟨by rw [List.flatten_cons,e];rfl,fun y hy=>?_⟩
    rcases Zrj.1 hy with rfl|hy
    ·exact hx
    ·exact g y hy
 obtain ⟨e,g⟩:=key a
 rw [e] at s
 exact ⟨s,g⟩
theorem Zhm (h105:Con e 105 (Ag K6)) (hc:c.ok) {ag tl us:Int}(o5:Be ag) (o6:Be sq) (o7:Aa tl) (o8:Aa us) (hL:Ls lvC L v) (hn:L.length≤1000) (Q:AV→St→Prop) (s:St) (y:MU c (ag,sq,tl,us,L)→Q (.int .i64 0) s) (n:¬MU c (ag,sq,tl,us,L)→Q (.int .i64 8) s):ESc e 105 [.agg c.c,.agg [.int .u32 ag,.int .u32 sq,.int .i64 tl,.int .i64 us,v]] s Q:=by
 obtain ⟨h1,h2⟩:=hL.lsl
 refine ZW (x:=⟨c,⟨ag,sq,tl,us,L⟩,v⟩) h105 ⟨hc,⟨o5,o6,o7,o8,h2,hn⟩,h1⟩ ?_
 by_cases h:CL.good ⟨c,⟨ag,sq,tl,us,L⟩,v⟩
 ·rw [Zqd h];exact y h
 ·rw [Zqh h];exact n h
def Zp2:AC:=match PS with|.mk c _=>c
noncomputable def ix108:Fn (List Fl×(Dv×Unit)×Unit):=C8 ftC 108 (.p dvC .nil) (fun _ _=>True) fun d f=>d.1.2.2.2.2.2.2.1≤f.1
theorem Zj0 (h108:Inl e 108 Zp2 [.tmp 3]):EU e ftC AV.agg 108 (.p dvC .nil) (fun _ _=>True) (fun (d:Dv×Unit) f=>d.1.2.2.2.2.2.2.1≤f.1):=by
 rintro ⟨⟨c,bk,⟨ev,lo,sp,po,dn,nl,br⟩,hs,⟨ag,sq,tl,us,L⟩,fs,nx,so⟩,_⟩ q xs ⟨n,⟨k,a,m,d⟩,st,sqs,da⟩ l ⟨_,_,rfl,hd,rfl⟩ _ _ hx Q t f
 obtain ⟨hv,lv,fv,rfl,ho,hH,hL,hF⟩:=Bl hd
 obtain ⟨dv,tv,qv,av,rfl,-⟩:=De hx
 dsimp only at t f
 refine ECall.inl h108.O h108.G ?_;conv=>whnf
 repeat' (first|(refine Ap ?_;conv=>whnf)|refine v4 ?_ ?_|(intro _;first|omega|conv=>whnf))
 all_goals first
  | exact t (by assumption) _
  | exact f (by omega) _
def Jx:Dv→Prop
 | (c,_,o,hs,lg,fs,nx,_)=>c.may∧Bq c o∧Cc c hs∧MU c lg∧EF c fs∧(1≤nx∧nx≤2147483648)∧¬∃ f ∈ fs,nx≤f.1
noncomputable def mprF:Fn (Dv×Unit):=bF (.g dvC .nil) (fun x=>x.1.2.2.2.2.1.2.2.2.2.length≤1000) fun x=>Jx x.1
set_option maxHeartbeats 2000000 in
theorem Zg9 (hE:EM P e) (h39:Con e 39 lossF.O) (h103:Con e 103 cfgF.O) (h104:Con e 104 shcF.O) (h105:Con e 105 (Ag K6)) (h106:Con e 106 fchF.O) (h107:Inl e 107 So [.tmp 4]) (h154:Con e 154 (relS (BO ix108.R))):OvOk P 52 mprF.O:=by
 refine Bo hE g52 ?_
 rintro ⟨⟨c,bk,⟨ev,lo,sp,po,dn,nl,br⟩,hs,⟨ag,sq,tl,us,L⟩,fs,nx,so⟩,_⟩ _ ⟨_,_,rfl,hd,rfl⟩ hn K t f
 dsimp only at hn t f
 have hrow:=dvC.hf hd
 have hd0:=hd
 obtain ⟨hv,lv,fv,rfl,⟨ho,o1,o2,o3,o4,o5,o6,o7,o8,oN⟩,hH,hL,hF⟩:=Bl hd
 have hc2:=fun (Q:AV→St→Prop) s a b=>@cF.u _ _ _ _ e 39 s Q _ h39 (c,_,()) ⟨_,_,rfl,⟨rfl,ho⟩,_,_,rfl,Ip (sp:=sp) (nl:=nl) (br:=br) o1 o2 o3 o4,rfl⟩ trivial a b
 have hc3:=fun (Q:AV→St→Prop) s a b=>@cF.u _ _ _ _ e 104 s Q [.agg c.c,hv] h104 (c,hs,()) ⟨_,_,rfl,⟨rfl,ho⟩,_,_,rfl,⟨_,rfl,hH⟩,rfl⟩ trivial a b
 have hc4:=Zhm h105 ho o5 o6 o7 o8 hL hn
 have hc5:=fun (Q:AV→St→Prop) s a b=>@cF.u _ _ _ _ e 106 s Q [.agg c.c,fv] h106 (c,fs,()) ⟨_,_,rfl,⟨rfl,ho⟩,_,_,rfl,⟨_,rfl,hF⟩,rfl⟩ trivial a b
 have hcn:=fun r (Q:AV→St→Prop) s' (hr:s'.get r=some (.row 33 _)) (y:(∃ f ∈ fs,nx≤f.1)→Q (.bool true) s') n=>Xg h107 (k:=Q) (p:=fun f:Fl=>nx≤f.1) (xs:=fs) (fun Q k=>@Ie _ ix108 e 154 s' Q h154 fv 108 [.ptr r 0] [.fp _] (fs,((c,bk,(ev,lo,sp,po,dn,nl,br),hs,(ag,sq,tl,us,L),fs,nx,so),()),()) ⟨_,_,rfl,⟨_,rfl,hF⟩,_,_,rfl,⟨_,_,rfl,hd0,rfl⟩,rfl⟩ trivial (.cons ⟨r,33,_,rfl,rfl,hr,hrow⟩ .nil) rfl k) y n
 unfold Jx at t f
 dsimp only at t f hc2 hc3 hc4 hc5
 change VW P e 0 _ (Ah [_] 0 .lf) St0 none [] _
 by_cases hM:c.may
 ·have hc1:=Sp h103 ho hM
  replace hc2:=fun (Q:AV→St→Prop) s (a:Bq c (ev,lo,sp,po,dn,nl,br)→Q (.int .i64 0) s) (b:¬Bq c (ev,lo,sp,po,dn,nl,br)→Q (.int .i64 8) s)=>hc2 Q s (fun q=>a q.2) (fun q=>b fun h=>q ⟨hM,h⟩)
  replace hc3:=fun (Q:AV→St→Prop) s (a:Cc c hs→Q (.int .i64 0) s) (b:¬Cc c hs→Q (.int .i64 8) s)=>hc3 Q s (fun q=>a q.2) (fun q=>b fun h=>q ⟨hM,h⟩)
  replace hc5:=fun (Q:AV→St→Prop) s (a:EF c fs→Q (.int .i64 0) s) (b:¬EF c fs→Q (.int .i64 8) s)=>hc5 Q s (fun q=>a q.2) (fun q=>b fun h=>q ⟨hM,h⟩)
  generalize Bq c _=A1 at *
  generalize Cc c _=A2 at *
  generalize MU c _=A3 at *
  generalize EF c _=A4 at *
  conv=>whnf
  repeat' (first|(refine hc2 _ _ (fun q1=>?_) (fun q1=>?_) <;> conv=>whnf)|(refine hc3 _ _ (fun q2=>?_) (fun q2=>?_) <;> conv=>whnf)|(refine hc4 _ _ (fun q3=>?_) (fun q3=>?_) <;> conv=>whnf)|(refine hc5 _ _ (fun q4=>?_) (fun q4=>?_) <;> conv=>whnf)|(refine hcn _ _ _ rfl (fun q5=>?_) (fun q5=>?_) <;> conv=>whnf)|((first|refine hc1 _ _ ?_|refine An ?_|refine As ?_);conv=>whnf)|refine v2 ?_ ?_|refine v4 ?_ ?_|refine v5 ?_ ?_|(intro _;first|omega|conv=>whnf))
  all_goals first
   | exact t ⟨hM,q1,q2,q3,q4,⟨by assumption,by assumption⟩,q5⟩ _
   | exact f (fun q=>q1 q.2.1) _
   | exact f (fun q=>q2 q.2.2.1) _
   | exact f (fun q=>q3 q.2.2.2.1) _
   | exact f (fun q=>q4 q.2.2.2.2.1) _
   | exact f (fun q=>q.2.2.2.2.2.2 q5) _
   | exact f (fun q=>by omega) _
 ·have hc1:=Sq h103 ho hM
  conv=>whnf
  repeat' (first|(refine hc1 _ _ ?_;conv=>whnf)|refine v5 ?_ ?_|(intro _;first|omega|conv=>whnf))
  exact f (fun q=>hM q.1) _
def PM (es:List (AV×AV×Nat)) (l:List Hd):Prop:=es.map (fun e=>(e.1,e.2.1))=l.map (fun h=>(AV.int .i64 h.1,AV.int .u8 (h.2.2.2.1:Int)))
theorem PM.cons {e:AV×AV×Nat}{es:List (AV×AV×Nat)}{l:List Hd}(h:PM (e::es) l):∃ x m,l=x::m∧e.1=.int .i64 x.1∧e.2.1=.int .u8 (x.2.2.2.1:Int)∧PM es m:=by
 cases l with
 | nil=>cases h
 | cons k l=>
  unfold PM at h
  simp at h
  exact ⟨k,l,rfl,h.1.1,h.1.2,h.2⟩
theorem PM.find {k:Int}:∀ {es:List (AV×AV×Nat)}{l:List Hd},PM es l→CF (.int .i64 k) es=some ((l.find? fun h=>decide (h.1=k)).map fun h=>AV.int .u8 (h.2.2.2.1:Int))
 | [],l,h=>by
  have:l=[]:=by
   have:=congrArg List.length h
   simp at this
   exact Zq7.1 this.symm
  subst this;rfl
 | (a,b,n)::es,l,h=>by
  obtain ⟨x,m,rfl,e1,e2,h'⟩:=h.cons
  dsimp only at e1 e2
  subst e1 e2
  show (match ET (.int .i64 k) (.int .i64 x.1) with|some true=>some (some _)|some false=>CF (.int .i64 k) es|none=>none)=_
  rw [N8,List.find?_cons]
  by_cases hk:x.1=k
  ·rw [Zqe hk,show (k == x.1)=true by simp [hk]];rfl
  ·rw [Zqq hk,show (k == x.1)=false by simp only [beq_eq_false_iff_ne];exact fun e=>hk e.symm]
   simp only
   rw [PM.find h']
variable {es:List (AV×AV×Nat)}{x:Hd}{n:Nat}
theorem PM.app {l:List Hd}(h:PM es l):PM (es++[(.int .i64 x.1,.int .u8 (x.2.2.2.1:Int),n)]) (l++[x]):=by
 unfold PM at h ⊢;simp [h]
theorem Ks {n:Nat}:∀ {es:List (AV×AV×Nat)}{l:List Hd},PM es l→IB n es=true
 | [],_,h=>rfl
 | (a,b,m)::es,_,h=>by
  obtain ⟨x,l,rfl,e1,e2,h'⟩:=h.cons
  dsimp only at e1 e2
  subst e1 e2
  show (true && true && IB n es)=true
  rw [Ks h'];rfl
theorem Ka {ρ:Nat→Nat}:∀ {es:List (AV×AV×Nat)}{l:List Hd},PM es l→BV ρ es=es
 | [],_,h=>rfl
 | (a,b,m)::es,_,h=>by
  obtain ⟨x,l,rfl,e1,e2,h'⟩:=h.cons
  dsimp only at e1 e2
  subst e1 e2
  show (AV.int .i64 _,AV.int .u8 _,m)::BV ρ es=_
  rw [Ka h']
variable {t:AT}{q:AV→St→Prop}{y:AO}{r:Nat}
theorem Z6 {x z:AO}{h:Hd}{l:List Hd}(hx:ev x t=.some (.map r)) (hy:ev y t=.some (.int .i64 h.1)) (hz:ev z t=.some (.int .u8 (h.2.2.2.1:Int))) (hs:s.get r=some (.map es n)) (hk:PM es l) (hn:∀ g ∈ l,g.1≠h.1)
 (hq:∀ es' n',PM es' (l++[h])→q (.tup []) (s.put r (.map es' n'))):EPrim (.mset x y z) t s q:=by
 refine EPrim.mk (v:=.tup []) (s':=s.put r (.map (es++[(.int .i64 h.1,.int .u8 (h.2.2.2.1:Int),n)]) (n+1))) (fun e rec=>?_) (hq _ _ hk.app)
 show wth x t _=_;unfold wth;rw [hx]
 show wth y t _=_;unfold wth;rw [hy]
 show wth z t _=_;unfold wth;rw [hz]
 show (Option.rec .fail _ (mapAt r s):RV)=_
 unfold mapAt;rw [hs]
 show (Option.rec .fail _ (CF (.int .i64 h.1) es):RV)=_
 rw [hk.find,List.find?_eq_none.2 fun g hg=>by simpa using hn g hg]
 show RV.ok _ (s.put r (.map (Ba es [(.int .i64 h.1,.int .u8 (h.2.2.2.1:Int),n)]) (n+1)))=_
 rw [Db]
theorem Z7 {x:AO}{zv:AV}{l:List Hd}(hx:ev x t=.some (.map r)) (hy:ev y t=.some (.int .i64 k)) (hs:s.get r=some (.map es n)) (hk:PM es l)
 (h1:∀ h,l.find? (fun h=>decide (h.1=k))=some h→q (.tup [.int .u8 (h.2.2.2.1:Int),.bool true]) s) (h2:l.find? (fun h=>decide (h.1=k))=none→q (.tup [zv,.bool false]) s):EPrim (.mget zv true x y) t s q:=by
 cases hm:l.find? (fun h=>decide (h.1=k)) with
 | some h=>
  refine EPrim.mk (v:=.tup [.int .u8 (h.2.2.2.1:Int),.bool true]) (s':=s) (fun e rec=>?_) (h1 h hm)
  show wth x t _=_;unfold wth;rw [hx]
  show wth y t _=_;unfold wth;rw [hy]
  show (Option.rec .fail _ (mapAt r s):RV)=_
  unfold mapAt;rw [hs]
  show (Option.rec .fail _ (CF (.int .i64 k) es):RV)=_
  rw [hk.find,hm];rfl
 | none=>
  refine EPrim.mk (v:=.tup [zv,.bool false]) (s':=s) (fun e rec=>?_) (h2 hm)
  show wth x t _=_;unfold wth;rw [hx]
  show wth y t _=_;unfold wth;rw [hy]
  show (Option.rec .fail _ (mapAt r s):RV)=_
  unfold mapAt;rw [hs]
  show (Option.rec .fail _ (CF (.int .i64 k) es):RV)=_
  rw [hk.find,hm];rfl
theorem Zih {hs:List Hd}{s:Int}:(∀ h,hs.find? (fun h=>decide (h.1=s))=some h→0≤A9 hs s∧hs[(A9 hs s).toNat]?=some h)∧(hs.find? (fun h=>decide (h.1=s))=none→A9 hs s=-1):=by
 unfold A9
 constructor
 ·intro h hf
  cases hi:hs.findIdx? (fun h=>decide (h.1=s)) with
  | none=>
   rw [List.findIdx?_eq_none_iff] at hi
   have:=List.find?_some hf
   have hm:=List.mem_of_find?_eq_some hf
   rw [hi h hm] at this;cases this
  | some i=>
   dsimp only
   refine ⟨by omega,?_⟩
   rw [Int.toNat_natCast]
   obtain ⟨h1,h2,h3⟩:=List.findIdx?_eq_some_iff_getElem.1 hi
   rw [Zp9 h1]
   rw [List.find?_eq_some_iff_getElem] at hf
   obtain ⟨g1,j,hj,g2,g3⟩:=hf
   rcases Nat.lt_trichotomy i j with hij|hij|hij
   ·have:=g3 i hij;simp at this h2;exact absurd h2 this
   ·subst hij;rw [g2]
   ·have:=h3 j hij
    rw [g2] at this
    exact absurd g1 this
 ·intro hf
  rw [List.find?_eq_none] at hf
  rw [List.findIdx?_eq_none_iff.2 fun x hx=>by simpa using hf x hx]
def cd56:AC:=match a56 with|.mk c _=>c
noncomputable def ix56:Fn (List Hd×Unit×Unit):=C8 hdC 56 .nil (fun _ _=>True) fun _ h=>h.2.2.2.2.1=true∨h.2.2.2.1=2∨h.2.2.2.1=3
theorem Zn8 (h56:Inl e 56 cd56 [.tmp 2]):EU e hdC AV.agg 56 .nil (fun _ _=>True) (fun (_:Unit) h=>h.2.2.2.2.1=true∨h.2.2.2.1=2∨h.2.2.2.1=3):=by
 rintro c q xs ⟨st,bl,di,ph,de,sq⟩ l rfl _ _ hx Q y n
 obtain ⟨bv,dv,rfl,-⟩:=Cn hx
 dsimp only at y n
 refine ECall.inl h56.O h56.G ?_
 cases de
 all_goals
  conv=>whnf
  repeat' (first|refine v5 ?_ ?_|(intro _;first|omega|conv=>whnf))
  all_goals first
   | exact y (.inl rfl) _
   | exact y (by omega) _
   | exact n (fun q=>by simp at q;omega) _
def I0:Dv→Prop
 | (c,bk,(ev,lo,sp,po,dn,nl,br),hs,(ag,sq,tl,us,L),fs,nx,so)=>Jx (c,bk,(ev,lo,sp,po,dn,nl,br),hs,(ag,sq,tl,us,L),fs,nx,so)∧K8 c hs fs∧¬Jy L∧(nl=true→Jp hs L)∧(nl=false→(∀ i<hs.length,∀ h,hs[i]?=some h→Dp L h)∧∀ i<L.length,∀ x,L[i]?=some x→ES L hs x.stripe)
noncomputable def mckF:Fn (Dv×Unit):=cF (.g dvC .nil) (fun x=>x.1.2.2.2.2.1.2.2.2.2.length≤1000) fun x=>I0 x.1
variable {i:Nat}
theorem Zem {x:Lv}(hx:L[i]?=some x):ES L hs x.stripe↔((D4 L x.stripe).par=false→0≤A9 hs x.stripe)∧((D4 L x.stripe).par=true→(D4 L x.stripe).home=false→0≤A9 hs x.stripe∧∀ h,hs[(A9 hs x.stripe).toNat]?=some h→2≤h.2.2.2.1):=by
 have hl:=(Zqa.1 hx).1
 have h0:=Q9 hx rfl L.length hl
 have hlt:=HQ L x.stripe L.length
 obtain ⟨y,hy⟩:∃ y,L[(AJ L x.stripe L.length).toNat]?=some y:=⟨_,Zp9 (by omega)⟩
 have:D4 L x.stripe=y:=by unfold D4;rw [Zqd (by omega),hy];rfl
 rw [this]
 unfold ES
 rw [hy]
 exact ⟨fun h=>h y rfl,fun h z hz=>by cases hz;exact h⟩
set_option maxHeartbeats 2000000 in
theorem Zhh (hE:EM P e) (h52:Con e 52 mprF.O) (h53:Con e 53 mhlF.O) (h54:Con e 54 mlgF.O) (h55:Inl e 55 SF [.tmp 4]) (h57:Con e 57 mstF.O) (h58:Con e 58 mlsF.O) (h110:Con e 110 (relS (BO ix56.R))):OvOk P 18 mckF.O:=by
 refine Jo hE g18 ?_
 rintro ⟨⟨c,bk,⟨ev,lo,sp,po,dn,nl,br⟩,hs,⟨ag,sq,tl,us,L⟩,fs,nx,so⟩,_⟩ _ ⟨_,_,rfl,hd,rfl⟩ hn1000 K t f
 dsimp only at hn1000
 have hrow:=dvC.hf hd
 have hc1:=fun (Q:AV→St→Prop) s a b=>@bF.u _ _ _ _ e 52 s Q _ h52 (_,()) ⟨_,_,rfl,hd,rfl⟩ hn1000 a b
 have hc2:=fun (hq:Jx (c,bk,(ev,lo,sp,po,dn,nl,br),hs,(ag,sq,tl,us,L),fs,nx,so)) (Q:AV→St→Prop) s a b=>@bF.u _ _ _ _ e 53 s Q _ h53 (_,()) ⟨_,_,rfl,hd,rfl⟩ ⟨hq.1,hq.2.2.1,hq.2.2.2.2.1⟩ a b
 have hc5:=fun h l (hh:hdC.r h l) (Q:AV→St→Prop) s a b=>@bF.u _ _ _ _ e 57 s Q _ h57 (_,h,()) ⟨_,_,rfl,hd,_,_,rfl,hh,rfl⟩ trivial a b
 have hc6:=fun s' (hs':Aa s') (Q:AV→St→Prop) st k=>@Fn.u _ e 58 st Q mlsF [.agg _,.int .i64 s'] h58 (_,s',()) ⟨_,_,rfl,hd,_,_,rfl,⟨rfl,AW hs'⟩,rfl⟩ trivial k
 obtain ⟨hv,lv,fv,rfl,⟨ho,o1,o2,o3,o4,o5,o6,o7,o8,oN⟩,hH,hL,hF⟩:=Bl hd
 obtain ⟨cs,hs1,hl1,hn1⟩:=hH.nth
 obtain ⟨ls,hs2,hl2,hn2⟩:=hL.lv
 have hvf:=hH.hf
 have hlf:=hL.hf
 have hc3:=fun (Q:AV→St→Prop) s a b=>@bF.u _ _ _ _ e 54 s Q [lv] h54 (L,()) ⟨_,_,rfl,⟨_,rfl,hL⟩,rfl⟩ trivial a b
 have hc4:=fun (Q:AV→St→Prop) s y n=>XE (k:=Q) (s:=s) h55 (p:=fun h:Hd=>h.2.2.2.2.1=true∨h.2.2.2.1=2∨h.2.2.2.1=3) (xs:=hs) (fun Q k=>@Ie _ ix56 e 110 s Q h110 hv 56 [] [] (hs,(),()) ⟨_,_,rfl,⟨_,rfl,hH⟩,_,_,rfl,rfl,rfl⟩ trivial .nil rfl k) y n
 have hbare:Jp hs L↔L.length=0∧¬∃ h ∈ hs,h.2.2.2.2.1=true∨h.2.2.2.1=2∨h.2.2.2.1=3:=by
  unfold Jp
  refine and_congr_right fun _=>?_
  constructor
  ·rintro h ⟨x,hx,hq⟩
   obtain ⟨i,hi⟩:=Zr0 hx
   have:=h i (Zqa.1 hi).1 x hi
   rcases hq with hq|hq|hq
   ·rw [hq] at this;cases this.1
   ·exact this.2.1 hq
   ·exact this.2.2 hq
  ·intro h i hi x hx
   have hm:=Zqv hx
   exact ⟨Bool.eq_false_iff.2 fun q=>h ⟨x,hm,.inl q⟩,fun q=>h ⟨x,hm,.inr (.inl q)⟩,fun q=>h ⟨x,hm,.inr (.inr q)⟩⟩
 have hshB:Jx (c,bk,(ev,lo,sp,po,dn,nl,br),hs,(ag,sq,tl,us,L),fs,nx,so)→Cc c hs:=fun h=>h.2.2.1
 unfold I0 at t f
 dsimp only at t f hc1 hc2 hc3 hc4
 rw [hbare] at t f
 generalize (∃ h ∈ hs,h.2.2.2.2.1=true∨h.2.2.2.1=2∨h.2.2.2.1=3)=A4 at *
 generalize Jx _=A1 at *
 generalize K8 c hs fs=A2 at *
 generalize Jy L=A3 at *
 change VW P e 0 _ (Ah [_] 0 .lf) St0 none [] _
 cases nl
 all_goals
  conv=>whnf
  repeat' (first|(refine hc1 _ _ (fun q1=>?_) (fun q1=>?_) <;> conv=>whnf)|(refine hc2 q1 _ _ (fun q2=>?_) (fun q2=>?_) <;> conv=>whnf)|(refine hc3 _ _ (fun q3=>?_) (fun q3=>?_) <;> conv=>whnf)|(refine hc4 _ _ (fun q4=>?_) (fun q4=>?_) <;> conv=>whnf)|((first|refine Ai hs1 ?_|refine Ai hs2 ?_|refine An ?_|refine As ?_);conv=>whnf)|refine v3 ?_ ?_|(intro _;first|omega|conv=>whnf))
  all_goals try first
   | exact f (fun q=>q1 q.1) _
   | exact f (fun q=>q2 q.2.1) _
   | exact f (fun q=>q.2.2.1 q3) _
   | exact f (fun q=>(q.2.2.2.1 rfl).2 q4) _
   | exact f (fun q=>by have:=(q.2.2.2.1 rfl).1;omega) _
   | exact t ⟨q1,q2,q3,fun _=>⟨by omega,q4⟩,fun h=>nomatch h⟩ _
 have hsh:=hshB q1
 refine KC hE (β:=List (AV×AV×Nat)×Nat) hs.length (fun i b=>[(1,.ptr 0 0),(3,.map 1),(41,hv),(42,.int .i64 (hs.length:Int)),(43,.int .i64 (i:Int))]) (fun i b=>[.row 33 (c.c++[.bool bk,.int .u32 ev,.int .i64 lo,.bool sp,.int .i64 po,.int .i64 dn,.bool false,.bool br,hv,.int .u32 ag,.int .u32 sq,.int .i64 tl,.int .i64 us,lv,fv,.int .i64 nx,.bool so]),.map b.1 b.2]) (fun i b=>PM b.1 (hs.take i)∧∀ j<i,∀ h,hs[j]?=some h→Dp L h) ([],0) ⟨rfl,fun k h=>by omega⟩ (Abs.tells (rs:=[0,1]) .a) ?_
 rintro i ⟨es,N⟩ hi ⟨hP,hI⟩
 dsimp only at hP hI ⊢
 by_cases hlt:i<hs.length
 ·obtain ⟨x,l,r,hx,hxr,hd2⟩:=hn1 i hlt
  have hc5:=hc5 x l hxr
  have hfh:¬Dp L x→∀ s,K (.int .i64 8) s:=fun g=>f fun q=>g ((q.2.2.2.2 rfl).1 i hlt x hx)
  have hth:Dp L x→∀ j<i+1,∀ h,hs[j]?=some h→Dp L h:=fun g=>AR hI fun y e=>by rw [hx] at e;cases e;exact g
  have htk:hs.take i++[x]=hs.take (i+1):=by rw [List.take_add_one,hx];rfl
  have hne:∀ g ∈ hs.take i,g.1≠x.1:=fun g hg=>by
   obtain ⟨j,hj⟩:=Zr0 hg
   rw [Zrm] at hj
   split at hj
   ·exact (hsh.1 i hlt x hx).2 j (by assumption) g hj
   ·cases hj
  obtain ⟨st,bl,di,ph,de,hsq⟩:=x
  obtain ⟨bv,dv,rfl,-⟩:=Cn hxr
  dsimp only at hc5
  clear hn1 hn2 hI hc1 hc2 hc3 hc4 hc6
  conv=>whnf
  repeat' (first|(refine hc5 _ _ (fun hq=>?_) (fun hq=>?_) <;> conv=>whnf)|(refine Z6 (h:=(st,bl,di,ph,de,hsq)) rfl rfl rfl rfl hP hne (fun es' N' hP'=>?_);conv=>whnf)|((first|refine Am hs1 hlt hd2 ?_|refine A7 (cs:=[.int .i64 st,bv,dv,.int .u8 (ph:Int),.bool de,.int .u32 hsq]) rfl ?_|refine v7 ?_|refine An ?_|refine As ?_|refine ⟨rfl,?_⟩);conv=>whnf)|refine v1 ?_ ?_|(intro _;first|omega|conv=>whnf))
  ·refine ⟨hlt,(es',N'),⟨by rw [← htk];exact hP',hth hq⟩,Abs.tells (rs:=[0,1]) ⟨by decide,⟨r9,r9,t9,r9,r9,trivial⟩,⟨o9 hrow,⟨Ks hP',?_⟩,trivial⟩⟩⟩
   show _=some (AObj.map (BV _ es') N');rw [Ka hP'];rfl
  ·exact hfh hq _
 ·obtain rfl:i=hs.length:=by omega
  rw [List.take_length] at hP
  have hI:∀ j<hs.length,∀ h,hs[j]?=some h→Dp L h:=hI
  conv=>whnf
  repeat' (first|(refine Ai hs2 ?_;conv=>whnf)|refine v1 ?_ ?_|(intro _;first|omega|conv=>whnf))
  refine Ax hE L.length (fun i=>[(1,.ptr 0 0),(3,.map 1),(59,lv),(60,.int .i64 (L.length:Int)),(61,.int .i64 (i:Int))]) (fun i=>[.row 33 (c.c++[.bool bk,.int .u32 ev,.int .i64 lo,.bool sp,.int .i64 po,.int .i64 dn,.bool false,.bool br,hv,.int .u32 ag,.int .u32 sq,.int .i64 tl,.int .i64 us,lv,fv,.int .i64 nx,.bool so]),.map es N]) (fun i=>∀ j<i,∀ x,L[j]?=some x→ES L hs x.stripe) (fun k h=>by omega) (Abs.tells (rs:=[0,1]) ⟨by decide,⟨r9,r9,t9,r9,r9,trivial⟩,⟨o9 hrow,⟨Ks hP,?_⟩,trivial⟩⟩) ?_
  ·show _=some (AObj.map (BV _ es) N);rw [Ka hP];rfl
  intro i hi hJ
  by_cases hlt2:i<L.length
  ·obtain ⟨sq',st',bl',pa,su,ho',r,hx,hx',hd2⟩:=hn2 i hlt2
   have hc6:=hc6 st' hx'.2.1
   have hkl:=Zem (hs:=hs) hx
   dsimp only at hkl
   have hfh:¬ES L hs st'→∀ s,K (.int .i64 8) s:=fun g=>f fun q=>g ((q.2.2.2.2 rfl).2 i hlt2 _ hx)
   have hth:ES L hs st'→∀ j<i+1,∀ x,L[j]?=some x→ES L hs x.stripe:=fun g=>AR hJ fun y e=>by rw [hx] at e;cases e;exact g
   rw [hkl] at hfh hth
   have hfp:=@Zih hs st'
   have hpl:=GW hs st'
   unfold mlsF at hc6
   dsimp only at hc6
   generalize G4 L st'=B at *
   generalize D4 L st'=y at *
   obtain ⟨xq,xs,xb,xp,xu,xh⟩:=y
   replace hc6:∀ (Q:AV→St→Prop) s',Q (.tup [.agg [.int .u32 xq,.int .i64 xs,.int .i64 xb,.bool xp,.bool xu,.bool xh],.bool B]) s'→ESc e 58 _ s' Q:=hc6
   dsimp only at hfh hth
   clear hkl hn1 hn2 hJ hI hc1 hc2 hc3 hc4 hc5 t f
   cases xp <;> cases xh
   all_goals
    conv=>whnf
    repeat' (first|(refine Z7 rfl rfl rfl hP (fun h qs=>?_) (fun qs=>?_) <;> conv=>whnf)|((first|refine Am hs2 hlt2 hd2 ?_|refine A7 (cs:=[.int .u32 sq',.int .i64 st',.int .i64 bl',.bool pa,.bool su,.bool ho']) rfl ?_|refine hc6 _ _ ?_|refine v7 ?_|refine An ?_|refine As ?_|refine ⟨rfl,?_⟩);conv=>whnf)|refine v1 ?_ ?_|refine v2 ?_ ?_|(intro _;first|omega|conv=>whnf))
    all_goals first
     | exact ⟨hlt2,hth ⟨(fun q=>Bool.noConfusion q),(fun _ q=>Bool.noConfusion q)⟩,Abs.tells (rs:=[0,1]) ⟨by decide,⟨r9,r9,t9,r9,r9,trivial⟩,⟨o9 hrow,⟨Ks hP,by show _=some (AObj.map (BV _ es) N);rw [Ka hP];rfl⟩,trivial⟩⟩⟩
     | exact ⟨hlt2,hth ⟨(fun _=>(hfp.1 h qs).1),(fun q=>Bool.noConfusion q)⟩,Abs.tells (rs:=[0,1]) ⟨by decide,⟨r9,r9,t9,r9,r9,trivial⟩,⟨o9 hrow,⟨Ks hP,by show _=some (AObj.map (BV _ es) N);rw [Ka hP];rfl⟩,trivial⟩⟩⟩
     | exact hfh (fun q=>by have:=q.1 rfl;have:=hfp.2 qs;omega) _
     | exact hfh (fun q=>by have:=(q.2 rfl rfl).2 _ (hfp.1 h qs).2;omega) _
     | exact ⟨hlt2,hth ⟨(fun q=>Bool.noConfusion q),fun _ _=>⟨(hfp.1 h qs).1,fun g hg=>by rw [(hfp.1 h qs).2] at hg;cases hg;omega⟩⟩,Abs.tells (rs:=[0,1]) ⟨by decide,⟨r9,r9,t9,r9,r9,trivial⟩,⟨o9 hrow,⟨Ks hP,by show _=some (AObj.map (BV _ es) N);rw [Ka hP];rfl⟩,trivial⟩⟩⟩
     | exact hfh (fun q=>by have:=(q.2 rfl rfl).1;have:=hfp.2 qs;omega) _
  ·conv=>whnf
   repeat' (first|refine v1 ?_ ?_|(intro _;first|omega|conv=>whnf))
   exact t ⟨q1,q2,q3,(fun h=>nomatch h),fun _=>⟨hI,fun j hj=>hJ j (by omega)⟩⟩ _
variable {l:List AV}{a:Int}
theorem Ziy (h49:Con e 49 drdF.O) {x:Dk}(hx:dkC.r x l) (hs:Cq x) (hp:CZ x) (ha:0≤a∧a<x.1.length) (Q:AV→St→Prop) (s:St) (k:Q (if x.2.2=true then .tup [.nils,.int .i64 40] else .tup [Ay (Ca x a),.int .i64 0]) s):ESc e 49 [.agg l,.int .i64 a] s Q:=by
 obtain ⟨y,hy,rfl⟩:=Jl hx
 have hi:=Kn hy
 have hok:=LW hy hs
 have hn:=hok.n
 have hus:y.us.length=x.1.length:=by rw [hy.a.bs.length,hy.b]
 have hd:AP y=true:=by rw [hi];exact hp
 refine ESc.fam (e:=e) (k:=Q) (s:=s) drdF h49 ⟨y,a⟩ ⟨hok,by dsimp only;unfold Aa;omega⟩ rfl ?_
 have he:(DKA.mk y a).e=if x.2.2=true then 40 else 0:=by
  show J2 y a=_
  unfold J2
  rw [Zqd hd,Zqd (by omega),hy.d]
 show Q (GZ ⟨y,a⟩) s
 unfold GZ
 rw [he]
 cases hdd:x.2.2
 ·rw [hdd,Zqh Bool.false_ne_true] at k
  rw [Zqh Bool.false_ne_true,Zqd rfl,show Ae (DKA.mk y a).b=Ca x a from JX hy a]
  exact k
 ·rw [hdd,Zqd rfl] at k
  rw [Zqd rfl,Zqh (by decide)]
  exact k
open Classical in
noncomputable def J3 (d:Dv) (D:List Dk):Int:=if I0 d∧d.1.may∧CH d.1 D then (if d.2.2.1.2.2.2.2.2.2=true then 230 else 0) else 8
noncomputable def askF:Fn (Dv×List Dk×Unit):=⟨.g dvC (.v dkC.sl .nil),fun x=>x.1.2.2.2.2.1.2.2.2.2.length≤1000∧∀ d ∈ x.2.1,Cq d,fun x=>.int .i64 (J3 x.1 x.2.1)⟩
theorem Zj9 (hE:EM P e) (h18:Con e 18 mckF.O) (h19:Con e 19 ftcF.O):OvOk P 35 askF.O:=by
 refine Bs g35.b ?_
 rintro ⟨d,D,_⟩ _ ⟨l,_,rfl,hd,v,_,rfl,⟨_,e0,hD⟩,rfl⟩ ⟨hn,hsm⟩
 cases e0
 dsimp only at hD hn hsm
 refine ⟨rfl,C.of_G hE g35 ?_⟩
 have hc1:=fun (Q:AV→St→Prop) s a b=>@cF.u _ _ _ _ e 18 s Q _ h18 (d,()) ⟨_,_,rfl,hd,rfl⟩ hn a b
 have hc2:=fun (c:Cfg) (hc:c.ok) (Q:AV→St→Prop) s a b=>@cF.u _ _ _ _ e 19 s Q [.agg c.c,v] h19 (c,D,()) ⟨_,_,rfl,⟨rfl,hc⟩,_,_,rfl,⟨_,rfl,hD⟩,rfl⟩ hsm a b
 have fin:∀ st n,J3 d D=n→Frz st (.int .i64 n) (askF.out (d,D,())):=by
  rintro st n rfl;exact .plain _ rfl
 generalize askF.out _=O at fin ⊢
 unfold J3 at fin
 dsimp only at hc1 hc2
 generalize I0 d=A1 at *
 have hvf:=hD.hf
 obtain ⟨c,bk,⟨ev,lo,sp,po,dn,nl,br⟩,hs,⟨ag,sq,tl,us,L⟩,fs,nx,so⟩:=d
 obtain ⟨hv,lv,fv,rfl,ho,hH,hL,hF⟩:=Bl hd
 have hc2:=hc2 c ho.1
 dsimp only at fin
 change VW P e 0 _ (Ah [_,v] 0 .lf) St0 none [] _
 cases br
 all_goals
  conv=>whnf
  repeat' (first|(refine hc1 _ _ (fun q1=>?_) (fun q1=>?_) <;> conv=>whnf)|(refine hc2 _ _ (fun q2=>?_) (fun q2=>?_) <;> conv=>whnf)|refine v6 ?_ ?_|(intro _;first|omega|conv=>whnf))
  all_goals first
   | exact fin _ _ (by rw [Zqh fun q=>q1 q.1])
   | exact fin _ _ (by rw [Zqh fun q=>q2 q.2])
   | exact fin _ _ (by rw [Zqd ⟨q1,q2⟩,Zqh Bool.false_ne_true])
   | exact fin _ _ (by rw [Zqd ⟨q1,q2⟩,Zqd rfl])
def dkV:Ce DK:=⟨3,fun y l=>l=y.c∧y.ok,by rintro _ _ ⟨rfl,_⟩;rfl,by
 rintro y _ ⟨rfl,h⟩
 have:=DK.hf h.a
 show hfs y.c=true
 have e:AM.hf (.agg y.c)=true:=this
 simpa [AM.hf] using e,by
 rintro x y _ ⟨rfl,h1⟩ ⟨e,h2⟩
 exact DK.inj h1.a h2.a (congrArg AV.agg e)⟩
def Ao (x:DK):DK:=⟨.fz x.us.length none (x.us.map Ac),x.us.map Ac,x.bs,(match x.ws.length with|0=>.nils|m+1=>.fz (m+1) none (Ad (x.ws.map A0))),x.ws.map A0,x.dead⟩
def twF:Fn (DK×Unit):=⟨.g dkV .nil,fun x=>1≤x.1.us.length,fun x=>(Ao x.1).v⟩
theorem Zkm (hE:EM P e) (h141:Inl e 119 GU [.tmp 2]):OvOk P 66 twF.O:=by
 refine Bs g66.b ?_
 rintro ⟨x,_⟩ _ ⟨_,_,rfl,⟨rfl,hx⟩,rfl⟩ h1
 have h1:1≤x.us.length:=h1
 have hcl:hfs (x.us.map Ac)=true:=L9 hx.a
 have hwl:hfs (Ad (x.ws.map A0))=true:=Fi fun w hw=>by
  obtain ⟨v,hv,rfl⟩:=Zq9.1 hw
  rcases (hx.a.ws v hv).b.1 with ⟨h,_⟩|⟨h,_⟩|⟨c,h,_⟩ <;> (show AM.hf (Ac v.u)=true;rw [h];rfl)
 refine ⟨by show AM.hf (Ao x).v=true;unfold Ao DK.v DK.c;dsimp only;split <;> rfl,((WE hE h141).2 [x.v] St0 _ _ (JV ⟨hx,h1⟩ St0)).mono ?_⟩
 rintro v s' ⟨rfl,rfl⟩
 show Frz _ (Hy 0 x) (Ao x).v
 unfold Hy Gb Ao DK.v DK.c
 dsimp only
 cases hw:x.ws.length with
 | zero=>exact .agg _ _ (.cons (.sl 0 0 _ _ _ 76 _ _ _ rfl (fun i x h=>by rw [Zqo];exact h) (Cz hcl) (.inl rfl)) (.cons (.plain _ rfl) (.cons (.plain _ rfl) .nil)))
 | succ m=>exact .agg _ _ (.cons (.sl 0 0 _ _ _ 76 _ _ _ rfl (fun i x h=>by rw [Zqo];exact h) (Cz hcl) (.inl rfl)) (.cons (.sl 1 0 _ _ _ 146 _ _ _ rfl (fun i x h=>by rw [Zqo];exact h) (Cz hwl) (.inl rfl)) (.cons (.plain _ rfl) .nil)))
theorem Ry {x:DK}(h:x.ok):(Ao x).ok:=by
 refine ⟨⟨?_,JS h.a.bs,?_,?_⟩,?_,?_,h.b,?_⟩
 ·exact .inr (.inr ⟨_,by show AV.fz x.us.length none (x.us.map Ac)=.fz (x.us.map Ac).length none (x.us.map Ac);rw [Zqg],(Zrc _).symm⟩)
 ·show Sl 2 (x.ws.map A0).length (Ad (x.ws.map A0)) (match x.ws.length with|0=>.nils|m+1=>.fz (m+1) none (Ad (x.ws.map A0)))
  cases hw:x.ws with
  | nil=>exact .inl ⟨rfl,rfl,rfl⟩
  | cons w W=>
   refine .inr (.inr ⟨none,?_,?_⟩)
   ·rw [Zqg];rfl
   ·have:∀ L:List WR,(Ad L).length=L.length*2:=fun L=>by
     induction L with
     | nil=>rfl
     | cons w L ih=>rw [Ff,Zqn,ih,Zq3];show 2+_=_;omega
    exact this _
 ·intro w hw
  obtain ⟨v,hv,rfl⟩:=Zq9.1 hw
  exact HS (h.a.ws v hv)
 ·show (x.us.map Ac).length<_;rw [Zqg];exact h.n
 ·show (x.ws.map A0).length<_;rw [Zqg];exact h.m
 ·intro w hw
  obtain ⟨v,hv,rfl⟩:=Zq9.1 hw
  exact h.w v hv
def DV (ys:List DK):List AV:=ys.flatMap fun y=>(Ao y).c
theorem WD {ys:List DK}(h:∀ y ∈ ys,y.ok):hfs (DV ys)=true:=by
 refine hfs_iff.2 fun v hv=>?_
 obtain ⟨y,hy,hv⟩:=List.mem_flatMap.1 hv
 have:=DK.hf (Ry (h y hy)).a
 have e:AM.hf (.agg (Ao y).c)=true:=this
 have e:hfs (Ao y).c=true:=by simpa [AM.hf] using e
 exact hfs_iff.1 e v hv
theorem VL:∀ ys:List DK,(DV ys).length=ys.length*3
 | []=>rfl
 | y::ys=>by unfold DV;rw [List.flatMap_cons,Zqn,show (ys.flatMap fun y=>(Ao y).c).length=ys.length*3 from VL ys,Zq3];show 3+_=_;omega
def M3 (args:List AV) (s:St) (u:AV) (s':St):Prop:=∃ v ys,args=[v]∧Ls dkV ys v∧(1≤ys.length∧ys.length≤1000)∧(∀ y ∈ ys,1≤y.us.length)∧u=.sl s.next 0 ys.length none∧s'=s.alloc (.row 60 (DV ys))
theorem Ls.mem {α:Type}{A:Ce α}{xs:List α}(h:Ls A xs v) {x:α}(hx:x ∈ xs):∃ l,A.r x l:=by
 obtain ⟨ls,a,-⟩:=h
 obtain ⟨i,hi⟩:=Zr0 hx
 obtain ⟨l,-,hr⟩:=a.get hi
 exact ⟨l,hr⟩
theorem Zf9 (hE:EM P e) (h66:Con e 66 twF.O):OvOk P 37 (relS M3):=by
 refine QQ g37.b ?_
 rintro args s u s' ⟨v,ys,rfl,hL,hn,h1,rfl,rfl⟩
 have hvf:=hL.hf
 have hoks:∀ y ∈ ys,y.ok:=fun y hy=>by obtain ⟨l,-,h⟩:=hL.mem hy;exact h
 obtain ⟨cs,hs',hl',hnth⟩:=hL.nth
 have hf0:=WD hoks
 have key:C P 37 [v] St0 (fun w s'=>w=.sl 0 0 ys.length none∧s'=Al St0 [.row 60 (DV ys)]):=by
  refine C.abs (C.of_G hE g37 ?_);conv=>whnf
  refine AA rfl hs' ?_;conv=>whnf
  refine Ax hE ys.length (fun i=>[(3,MT i 0),(6,v),(7,.int .i64 (ys.length:Int)),(8,.int .i64 (i:Int))]) (fun i=>match i with|0=>[]|i+1=>[.row 60 (DV (ys.take (i+1)))]) (fun _=>True) trivial (Abs.tells (rs:=[]) .a) ?_
  intro i hi _
  by_cases hlt:i<ys.length
  ·obtain ⟨y,_,r,hy,⟨rfl,hyo⟩,hd⟩:=hnth i hlt
   have hy1:=h1 y (Zqv hy)
   have htw:∀ (Q:AV→St→Prop) s,Q (.agg (Ao y).c) s→ESc e 66 [.agg y.c] s Q:=fun Q s k=>Fn.u (F:=twF) h66 (y,()) ⟨_,_,rfl,⟨rfl,hyo⟩,rfl⟩ hy1 k
   have hst:DV (ys.take (i+1))=DV (ys.take i)++(Ao y).c:=by
    rw [List.take_add_one,hy];unfold DV;rw [List.flatMap_append];simp
   have hfi:=WD (ys:=ys.take (i+1)) fun y hy=>hoks y (Zrg hy)
   have hli:=VL (ys.take i)
   rw [Zqz,Nat.min_eq_left hi] at hli
   obtain ⟨q1,q2,q3,hq⟩:∃ q1 q2 q3,(Ao y).c=[q1,q2,q3]:=⟨_,_,_,rfl⟩
   rw [hq] at htw hst
   have hyc:y.c=[y.bv,y.wv,.bool y.dead]:=rfl
   rw [hyc] at hd htw
   rcases i with _|i
   ·conv=>whnf
    repeat' (first|((first|refine Am hs' hlt hd ?_|refine A7 (cs:=[y.bv,y.wv,.bool y.dead]) rfl ?_|refine htw _ _ ?_|refine CJ (m:=1) ?_|refine v7 ?_|refine ⟨rfl,?_⟩);conv=>whnf)|refine v1 ?_ ?_|(intro _;first|omega|conv=>whnf))
    refine ⟨hlt,trivial,Abs.tells (rs:=[2]) ⟨by decide,⟨r9,t9,r9,r9,trivial⟩,⟨⟨Bd hfi,?_⟩,trivial⟩⟩⟩
    show _=some (Bv _ (AObj.row 60 (DV (ys.take (0+1)))))
    rw [AX hfi,hst];rfl
   ·have hil:i+1≤1000:=by omega
    conv=>whnf
    repeat' (first|((first|refine Am hs' hlt hd ?_|refine A7 (cs:=[y.bv,y.wv,.bool y.dead]) rfl ?_|refine htw _ _ ?_|refine Cw (m:=1) (n:=i+1) (old:=DV (ys.take (i+1))) rfl rfl rfl rfl hli rfl (by decide) (by omega) ?_|refine v7 ?_|refine ⟨rfl,?_⟩);conv=>whnf)|refine v1 ?_ ?_|(intro _;first|omega|conv=>whnf))
    refine ⟨hlt,trivial,Abs.tells (rs:=[3]) ⟨by decide,⟨r9,t9,r9,r9,trivial⟩,⟨⟨Bd hfi,?_⟩,trivial⟩⟩⟩
    show _=some (Bv _ (AObj.row 60 (DV (ys.take (i+1+1)))))
    rw [AX hfi,hst];rfl
  ·obtain ⟨m,hm⟩:∃ m,ys.length=m+1:=⟨ys.length-1,by omega⟩
   have him:i=m+1:=by omega
   subst him
   have htk:ys.take (m+1)=ys:=Zqi (by omega)
   dsimp only
   rw [htk]
   conv=>whnf
   repeat' (first|refine v1 ?_ ?_|(intro _;first|omega|conv=>whnf))
   refine ⟨[0],⟨by decide,⟨⟨rfl,?_⟩,trivial⟩,⟨o9 hf0,trivial⟩⟩⟩
   show _=some (AV.sl 0 0 ys.length none)
   rw [hm];rfl
 refine (C.frame (l:=[.row 60 (DV ys)]) (u:=.sl 0 0 ys.length none) (by show (AM.hf v && true)=true;rw [hvf];rfl) ?_ (.inl (by simp)) key ?_ s).mono ?_
 ·intro o ho;simp at ho;subst ho;rfl
 ·intro i o h;rcases i with _|i <;> simp at h;subst h;rfl
 ·rintro w s' ⟨rfl,rfl⟩
  refine ⟨?_,?_⟩
  ·show AV.sl (0+s.next) 0 _ none=_;rw [Zqo]
  ·show Al s [Bv _ (.row 60 (DV ys))]=_
   rw [AX hf0];rfl
abbrev Act:=Int×Nat×Int×List Nat
def actC:Ce Act:=i64C.pr (Ce.u8.pr (i64C.pr bytC))
theorem OB {d:Nat}{b:List Nat}(h:actC.r (k,d,a,b) l):∃ v,l=[.int .i64 k,.int .u8 (d:Int),.int .i64 a,v]∧Aa k∧d<256∧Aa a∧Ls Ce.u8 b v:=by
 obtain ⟨_,_,rfl,⟨rfl,h1⟩,_,_,rfl,⟨rfl,h2⟩,_,_,rfl,⟨rfl,h3⟩,v,rfl,h4⟩:=h
 exact ⟨v,rfl,CA h1,h2,CA h3,h4⟩
def Zp0:AC:=match PH with|.mk c _=>c
theorem Zjy (h138:Inl e 138 Zp0 [.tmp 2]) (h44:Con e 44 dskF.O):EU e dkC AV.agg 138 .nil (fun _ xs=>∀ d ∈ xs,Cq d) (fun (_:Unit) d=>¬CZ d):=by
 rintro c q xs x l rfl hok hmem hx Q y n
 have hd:=fun (Q:AV→St→Prop) s a b=>Wz (e:=e) h44 hx (hok x hmem) Q s a b
 have hlen:=dkC.len hx
 obtain ⟨bs,ws,dd⟩:=x
 obtain ⟨bv,wv,rfl,-,-⟩:=Hf hx
 refine ECall.inl h138.O h138.G ?_;conv=>whnf
 repeat' (first|(refine hd _ _ (fun q=>?_) (fun q=>?_) <;> conv=>whnf)|refine v6 ?_ ?_|(intro _;first|omega|conv=>whnf))
 all_goals first
  | exact n (fun h=>h q) _
  | exact y q _
noncomputable def ix138:Fn (List Dk×Unit×Unit):=C8 dkC 138 .nil (fun _ xs=>∀ d ∈ xs,Cq d) fun _ d=>¬CZ d
def Pg (D:List Dk):Prop:=(1≤D.length∧D.length≤17)∧∀ d ∈ D,CZ d
noncomputable def dvsF:Fn (List Dk×Unit):=cF (.v dkC.sl .nil) (fun x=>∀ d ∈ x.1,Cq d) fun x=>Pg x.1
theorem Ziu (hE:EM P e) (h139:Inl e 139 XG [.tmp 4]) (h182:Con e 182 (relS (BO ix138.R))):OvOk P 83 dvsF.O:=by
 refine Jo hE g83 ?_
 rintro ⟨D,_⟩ _ ⟨v,_,rfl,⟨_,e0,hL⟩,rfl⟩ hsm K t f
 cases e0
 dsimp only at t f hL hsm
 obtain ⟨cs,hs',hl,-⟩:=hL.nth
 have hcn:=fun (Q:AV→St→Prop) s y n=>Zn5 (k:=Q) (s:=s) h139 (p:=fun d:Dk=>¬CZ d) (xs:=D) (fun Q k=>@Ie _ ix138 e 182 s Q h182 v 138 [] [] (D,(),()) ⟨_,_,rfl,⟨_,rfl,hL⟩,_,_,rfl,rfl,rfl⟩ hsm .nil rfl k) y n
 unfold Pg at t f
 change VW P e 0 _ (Ah [v] 0 .lf) St0 none [] _
 conv=>whnf
 repeat' (first|(refine hcn _ _ (fun q=>?_) (fun q=>?_) <;> conv=>whnf)|(refine AA rfl hs' ?_;conv=>whnf)|refine v1 ?_ ?_|refine v3 ?_ ?_|(intro _;first|omega|conv=>whnf))
 all_goals first
  | exact f (fun h=>by omega) _
  | exact f (fun h=>by obtain ⟨d,hd,hn⟩:=q;exact hn (h.2 d hd)) _
  | exact t ⟨by omega,fun d hd=>Classical.byContradiction fun h=>q ⟨d,hd,h⟩⟩ _
theorem Gk {k:AV→St→Prop}{x:AO}{kd:Nat}{neg:Bool}{a b:AV}{r:Bool}(hx:ev x t=.some a) (hy:ev y t=.some b) (h:J0 kd a b=some r) (hk:k (.bool (D1 neg r)) s):EPrim (.eqb kd neg x y) t s k:=by
 refine EPrim.mk (v:=.bool (D1 neg r)) (s':=s) (fun e rec=>?_) hk
 show wth x t _=_;unfold wth;rw [hx]
 show wth y t _=_;unfold wth;rw [hy]
 show (Option.rec .fail (fun c=>.ok (.bool (D1 neg c)) s) (J0 kd a b):RV)=_
 rw [h]
def D3 (D:List Dk):Act→Prop
 | (k,d,a,b)=>(0≤k∧k<D.length)∧(1≤d∧d≤3)∧(d=3→a=0∧b.length=0)∧(d≠3→(0≤a∧∀ x,D[k.toNat]?=some x→a<x.1.length)∧BB b)
noncomputable def amyF:Fn (Act×List Dk×Unit):=bF (.g actC (.v dkC.sl .nil)) (fun _=>True) fun x=>D3 x.2.1 x.1
def SJ:AC:=match a38 with|.mk c _=>c
theorem Zkb (hE:EM P e) (h38:Inl e 38 SJ [.tmp 2]):OvOk P 84 amyF.O:=by
 refine Bo hE g84 ?_
 rintro ⟨⟨k,d,a,b⟩,D,_⟩ _ ⟨_,_,rfl,hg,v,_,rfl,⟨_,e0,hL⟩,rfl⟩-K t f
 cases e0
 dsimp only at t f hL
 obtain ⟨u,rfl,o1,o2,o3,hb⟩:=OB hg
 obtain ⟨bs,hbs,hbl,-⟩:=hb.nth
 obtain ⟨cs,hs',hl,hn⟩:=hL.nth
 unfold D3 at t f
 dsimp only at t f
 unfold Aa at o1 o3
 unfold BB at t f
 change VW P e 0 _ (Ah [.agg [.int .i64 k,.int .u8 (d:Int),.int .i64 a,u],v] 0 .lf) St0 none [] _
 by_cases hk:0≤k∧k<D.length
 ·obtain ⟨⟨xb,xw,xd⟩,_,r,hx,hxr,hd⟩:=hn k.toNat (by omega)
  obtain ⟨bv,wv,rfl,h1,-⟩:=Hf hxr
  obtain ⟨ys,k1,l1,-⟩:=h1.nth
  have hkn:k=(k.toNat:Nat):=by omega
  have hkl:k.toNat<D.length:=by omega
  have hq:(∀ x:Dk,D[k.toNat]?=some x→a<x.1.length)↔a<xb.length:=by
   rw [hx]
   exact ⟨fun h=>h _ rfl,fun h x e=>by cases e;exact h⟩
  rw [hq] at t f
  rcases d with _|_|_|_|d
  all_goals
   conv=>whnf
   repeat' (first|((first|refine AA rfl hs' ?_|refine ESc.inl h38 ?_|refine Gk rfl rfl rfl ?_|refine Ny rfl rfl (by omega) (by omega) ?_|refine Ai hbs ?_|refine Ap ?_|refine BS rfl hs' rfl hkn hkl hd ?_|refine Ai k1 ?_|refine Cj ?_);conv=>whnf)|refine v1 ?_ ?_|refine v4 ?_ ?_|refine v5 ?_ ?_|(intro _;first|omega|conv=>whnf))
   all_goals first
    | exact t (by omega) _
    | exact f (by omega) _
 ·conv=>whnf
  repeat' (first|(refine AA rfl hs' ?_;conv=>whnf)|refine v1 ?_ ?_|refine v4 ?_ ?_|(intro _;first|omega|conv=>whnf))
  all_goals exact f (fun q=>hk q.1) _
open Classical in
noncomputable def Dm (l:List Act) (D:List Dk):Int:=if Pg D then (if 1024<l.length then 4 else if ∀ a ∈ l,D3 D a then 0 else 2) else 8
noncomputable def achF:Fn (List Act×List Dk×Unit):=⟨.v actC.sl (.v dkC.sl .nil),fun x=>∀ d ∈ x.2.1,Cq d,fun x=>.int .i64 (Dm x.1 x.2.1)⟩
theorem Zkc (hE:EM P e) (h83:Con e 83 dvsF.O) (h84:Con e 84 amyF.O):OvOk P 36 achF.O:=by
 refine Bs g36.b ?_
 rintro ⟨l,D,_⟩ _ ⟨w,_,rfl,⟨_,e1,hA⟩,v,_,rfl,⟨_,e0,hL⟩,rfl⟩ hsm
 cases e0
 cases e1
 dsimp only at hA hL hsm
 have hvf:=hL.hf
 have hwf:=hA.hf
 obtain ⟨cs,hs',hl,hn⟩:=hA.nth
 refine ⟨rfl,C.of_G hE g36 ?_⟩
 have hdv:=fun (Q:AV→St→Prop) s a b=>@cF.u _ _ _ _ e 83 s Q [v] h83 (D,()) ⟨_,_,rfl,⟨_,rfl,hL⟩,rfl⟩ hsm a b
 have hmy:=fun (x:Act) (l:List AV) (hx:actC.r x l) (Q:AV→St→Prop) s a b=>@bF.u _ _ _ _ e 84 s Q [.agg l,v] h84 (x,D,()) ⟨_,_,rfl,hx,_,_,rfl,⟨_,rfl,hL⟩,rfl⟩ trivial a b
 have fin:∀ st n,Dm l D=n→Frz st (.int .i64 n) (achF.out (l,D,())):=by
  rintro st n rfl;exact .plain _ rfl
 generalize achF.out _=O at fin ⊢
 unfold Dm at fin
 dsimp only at hdv hmy
 generalize Pg D=A1 at *
 change VW P e 0 _ (Ah [w,v] 0 .lf) St0 none [] _
 conv=>whnf
 repeat' (first|(refine hdv _ _ (fun q1=>?_) (fun q1=>?_) <;> conv=>whnf)|(refine AA rfl hs' ?_;conv=>whnf)|refine v3 ?_ ?_|refine v6 ?_ ?_|(intro _;first|omega|conv=>whnf))
 ·exact fin _ _ (by rw [Zqd q1,Zqd (by omega)])
 ·have hle:¬1024<l.length:=by omega
  refine Ax hE l.length (fun i=>[(1,v),(16,w),(17,.int .i64 (l.length:Int)),(18,.int .i64 (i:Int))]) (fun _=>[]) (fun i=>∀ j<i,∀ a,l[j]?=some a→D3 D a) (fun k h=>by omega) (Abs.tells (rs:=[]) .a) ?_
  intro i hi hI
  by_cases hlt:i<l.length
  ·obtain ⟨x,c,r,hx,hxr,hd⟩:=hn i hlt
   have hmy:=hmy x c hxr
   have hth:D3 D x→∀ j<i+1,∀ a,l[j]?=some a→D3 D a:=fun g=>AR hI fun y e=>by rw [hx] at e;cases e;exact g
   have hfh:¬D3 D x→∀ st,Frz st (.int .i64 2) O:=fun h st=>fin _ _ (by rw [Zqd q1,Zqh hle,Zqh fun q=>h (q x (Zqv hx))])
   obtain ⟨k,d,a,b⟩:=x
   obtain ⟨u,rfl,-⟩:=OB hxr
   conv=>whnf
   repeat' (first|(refine hmy _ _ (fun q=>?_) (fun q=>?_) <;> conv=>whnf)|((first|refine Am hs' hlt hd ?_|refine A7 (cs:=[.int .i64 k,.int .u8 (d:Int),.int .i64 a,u]) rfl ?_|refine v7 ?_|refine An ?_|refine As ?_|refine ⟨rfl,?_⟩);conv=>whnf)|refine v1 ?_ ?_|(intro _;first|omega|conv=>whnf))
   ·exact ⟨hlt,hth q,Abs.tells (rs:=[]) .a⟩
   ·exact hfh q _
  ·conv=>whnf
   repeat' (first|refine v1 ?_ ?_|(intro _;first|omega|conv=>whnf))
   exact fin _ _ (by rw [Zqd q1,Zqh hle,Zqd (WQ fun j hj=>hI j (by omega))])
 ·exact fin _ _ (by rw [Zqh q1])
def SG (el k:Nat):AC:=.seq (.reg [.mk 3 (.mv (.c .nils)) none]) (.seq (.seq (.reg [.mk 4 (.mv (.t 0)) none,.mk 5 (.eqb 2 false (.t 3) (.c .nils)) none]) (.cond (.t 4) (.seq (.reg [.mk 3 (.mv (.c .nils)) none]) .ret) .skip)) (.seq (.reg [.mk 6 (.bsl el k 0 [] []) none,.mk 7 (.mv (.t 0)) none,.mk 8 (.app el k (.t 5) (.t 6)) none,.mk 3 (.mv (.t 7)) none]) .ret))
def C4 (k:Nat) (args:List AV) (u:AV):Prop:=∃ v n cs,args=[v]∧Sl k n cs v∧(0<k∧n≤1000000)∧hfs cs=true∧u=Ac v
theorem Zn6 {k:Nat}{cs:List AV}(h:Sl k n cs v):AM.hf (Ac v)=true:=by
 rcases h with ⟨rfl,_⟩|⟨rfl,_⟩|⟨c,rfl,_⟩ <;> rfl
variable {f:Nat}
theorem Mi (hE:EM P e) {el k:Nat}{fn:Func}(g:GK f fn (.mk (SG el k) [.tmp 2])):OvOk P f (Ag (C4 k)):=by
 refine Da g.b ?_
 rintro args u ⟨v,n,cs,rfl,hs,⟨hk,hn⟩,hc,rfl⟩
 have hvf:=hs.hf
 refine ⟨by show (AM.hf v && true)=true;rw [hvf];rfl,Zn6 hs,C.of_G hE g ?_⟩
 have fin:∀ (st:St) (r m:Nat) (c:Option Nat),st.get r=some (.row el cs)→m=n→Frz st (.sl r 0 m c) (.fz n none cs):=by
  rintro st r m c hg rfl
  exact .sl r 0 _ _ _ el _ _ _ hg (fun i x hx=>by rw [Zqo];exact hx) (Cz hc) (.inl rfl)
 change VW P e 0 _ (Ah [v] 0 .lf) St0 none [] _
 rcases hs with ⟨rfl,rfl,rfl⟩|⟨rfl,rfl,rfl⟩|⟨c,rfl,hl⟩
 ·conv=>whnf
  repeat' (first|(refine Gk rfl rfl rfl ?_;conv=>whnf)|fail)
  exact .plain _ rfl
 ·conv=>whnf
  repeat' (first|((first|refine Gk rfl rfl rfl ?_|refine EL rfl rfl rfl ?_);conv=>whnf)|fail)
  exact fin _ _ _ _ rfl rfl
 ·rcases cs with _|⟨x,l⟩
  ·have h0:n=0:=by
    rcases Nat.eq_zero_or_pos n with h|h
    ·exact h
    ·have:=Nat.mul_pos h hk
     simp at hl;omega
   subst h0
   conv=>whnf
   repeat' (first|((first|refine Gk rfl rfl rfl ?_|refine EL rfl rfl (If (by simp) _) ?_);conv=>whnf)|fail)
   exact fin _ _ _ _ rfl rfl
  ·have h0:0<n:=by
    rcases Nat.eq_zero_or_pos n with h|h
    ·subst h;simp at hl
    ·exact h
   conv=>whnf
   repeat' (first|((first|refine Gk rfl rfl rfl ?_|refine Qs (m:=n) rfl rfl (If hl _) rfl hl hk h0 hn ?_);conv=>whnf)|fail)
   exact fin _ _ _ _ rfl rfl
theorem Zj5 (hE:EM P e):OvOk P 119 (Ag (C4 1)):=Mi (el:=5) hE g119
theorem Zj4 (hE:EM P e):OvOk P 159 (Ag (C4 6)):=Mi (el:=128) hE g159
theorem Zj3 (hE:EM P e):OvOk P 160 (Ag (C4 1)):=Mi (el:=5) hE g160
theorem Zj2 (hE:EM P e):OvOk P 161 (Ag (C4 1)):=Mi (el:=22) hE g161
theorem Zj1 (hE:EM P e):OvOk P 194 (Ag (C4 1)):=Mi (el:=4) hE g194
theorem JQ {α:Type}{A:Ce α}:∀ {xs:List α}{ls:List (List AV)},All2 A.r xs ls→hfs ls.flatten=true
 | _,_,.nil=>rfl
 | _,_,.cons h1 h2=>by rw [List.flatten_cons];exact E2 (A.hf h1) (JQ h2)
theorem Ls.slh {α:Type}{A:Ce α}{xs:List α}(h:Ls A xs v):∃ cs,Sl A.k xs.length cs v∧hfs cs=true:=by
 obtain ⟨ls,a,s,_⟩:=h
 exact ⟨_,s,JQ a⟩
theorem Ls.cln {α:Type}{A:Ce α}{xs:List α}(h:Ls A xs v):Ls A xs (Ac v):=by
 obtain ⟨ls,a,s,hn⟩:=h
 refine ⟨ls,a,?_,hn⟩
 rcases s with ⟨rfl,h1,h2⟩|⟨rfl,h1,h2⟩|⟨c,rfl,h1⟩
 ·exact .inl ⟨rfl,h1,h2⟩
 ·exact .inr (.inr ⟨none,by rw [h1,h2];rfl,by rw [h1,h2];simp⟩)
 ·exact .inr (.inr ⟨none,rfl,h1⟩)
theorem HZ {α:Type}{A:Ce α}{xs:List α}(hf:Con e f (Ag (C4 A.k))) (h:Ls A xs v) (hk:0<A.k) (hn:xs.length≤1000000) (Q:AV→St→Prop) (s:St) (q:Q (Ac v) s):ESc e f [v] s Q:=by
 obtain ⟨cs,h1,h2⟩:=h.slh
 refine ESc.rel hf ⟨_,v,_,cs,rfl,h1,⟨hk,hn⟩,h2,rfl⟩ ?_
 rintro u ⟨v',n',cs',e1,h1',-,-,rfl⟩
 cases e1
 exact q
def IA:AV→AV
 | .fz (n+1) _ l=>.fz (n+1) none (l.map Ac)
 | _=>.nils
theorem Zob (h:Ls bytC bl v):Ls bytC bl (IA v):=by
 obtain ⟨ls,a,s,hn⟩:=h
 rcases s with ⟨rfl,h1,h2⟩|⟨rfl,h1,h2⟩|⟨c,rfl,h1⟩
 ·rw [Zq7.1 h1];exact E6 (.inl rfl)
 ·rw [Zq7.1 h1];exact E6 (.inl rfl)
 ·rcases bl with _|⟨b,bl⟩
  ·exact E6 (.inl rfl)
  ·have key:∀ {bl:List (List Nat)}{ls:List (List AV)},All2 bytC.r bl ls→All2 bytC.r bl (ls.map fun l=>l.map Ac)∧(ls.map fun l=>l.map Ac).flatten=ls.flatten.map Ac:=by
    intro bl ls h
    induction h with
    | nil=>exact ⟨.nil,rfl⟩
    | cons h1 h2 ih=>
     obtain ⟨u,rfl,hu⟩:=h1
     refine ⟨.cons ⟨_,rfl,hu.cln⟩ ih.1,?_⟩
     rw [Zrp,List.flatten_cons,List.flatten_cons,Zqy,ih.2]
   obtain ⟨k1,k2⟩:=key a
   refine ⟨_,k1,.inr (.inr ⟨none,?_,?_⟩),hn⟩
   ·rw [k2];rfl
   ·rw [k2,Zqg];exact h1
def DC:List AV→List AV
 | [st,bv,dv,ph,de,sq]=>[st,IA bv,Ac dv,ph,de,sq]
 | l=>l
def MW (x:Hd):Prop:=x.2.1.length≤1000∧(∀ b ∈ x.2.1,b.length≤1000)∧x.2.2.1.length≤1000
theorem OJ (h:hdC.r x l):hdC.r x (DC l):=by
 obtain ⟨st,bl,di,ph,de,sq⟩:=x
 obtain ⟨_,_,rfl,⟨rfl,h1⟩,_,_,rfl,⟨bv,rfl,h2⟩,_,_,rfl,⟨dv,rfl,h3⟩,_,_,rfl,⟨rfl,h4⟩,_,_,rfl,rfl,rfl,h5⟩:=h
 exact ⟨[_],_,rfl,⟨rfl,h1⟩,[_],_,rfl,⟨_,rfl,Zob h2⟩,[_],_,rfl,⟨_,rfl,Ls.cln h3⟩,[_],_,rfl,⟨rfl,h4⟩,[_],_,rfl,rfl,rfl,h5⟩
def MF (args:List AV) (u:AV):Prop:=∃ x l,args=[.agg l]∧hdC.r x l∧MW x∧u=.agg (DC l)
theorem Zls (hE:EM P e) (h119:Con e 119 (Ag (C4 1))) (h194:Con e 194 (Ag (C4 1))):OvOk P 158 (Ag MF):=by
 refine Da g158.b ?_
 rintro args u ⟨⟨st,bl,di,ph,de,sq⟩,l,rfl,hx,⟨s1,s2,s3⟩,rfl⟩
 have hrow:=hdC.hf hx
 have hrow2:=hdC.hf (OJ hx)
 obtain ⟨bv,dv,rfl,o1,hB,hD,o4,o5⟩:=Cn hx
 dsimp only at s1 s2 s3 hB hD
 have hbf:=hB.hf
 have hdf:=hD.hf
 have hdf2:=(Ls.cln hD).hf
 refine ⟨by show (hfs _ && true)=true;rw [hrow];rfl,by show hfs _=true;exact hrow2,C.of_G hE g158 ?_⟩
 have hcd:=fun Q s q=>HZ (A:=Ce.bool) (e:=e) (f:=194) h194 hD (by decide) (by omega) Q s q
 obtain ⟨cs,hs',hl',hn⟩:=hB.nth
 have hcb:=fun (b:List Nat) (w:AV) (hw:Ls Ce.u8 b w) (hb:b.length≤1000) Q s q=>HZ (A:=Ce.u8) (e:=e) (f:=119) h119 hw (by decide) (by omega) Q s q
 have hdc:=(Ls.cln hD).cell
 have hbc:=hB.cell
 change VW P e 0 _ (Ah [.agg [.int .i64 st,bv,dv,.int .u8 (ph:Int),.bool de,.int .u32 sq]] 0 .lf) St0 none [] _
 conv=>whnf
 repeat' (first|(refine Dy (by show Nat.beq (A6 (cellsOf (Ac dv))) 1=true;rw [hdc];rfl) ?_;rw [hdc];conv=>whnf)|((first|refine hcd _ _ ?_|refine AA rfl hs' ?_);conv=>whnf)|fail)
 have hcsf:hfs (cs.map Ac)=true:=by
  obtain ⟨ls,a,sl,_⟩:=id hB
  have e:ls.flatten=cs:=sl.l_inj hs'
  have key:∀ {bl:List (List Nat)}{ls:List (List AV)},All2 bytC.r bl ls→hfs (ls.flatten.map Ac)=true:=by
   intro bl ls h
   induction h with
   | nil=>rfl
   | cons h1 h2 ih=>
    obtain ⟨u,rfl,hu⟩:=h1
    rw [List.flatten_cons,Zqy]
    exact E2 (by show (AM.hf (Ac u) && true)=true;rw [(Ls.cln hu).hf];rfl) ih
  rw [← e];exact key a
 have hft:∀ i,hfs ((cs.take i).map Ac)=true:=fun i=>hfs_iff.2 fun v hv=>by
  obtain ⟨w,hw,rfl⟩:=Zq9.1 hv
  exact hfs_iff.1 hcsf _ (Zq9.2 ⟨w,Zrg hw,rfl⟩)
 have hcl:cs.length=bl.length:=by
  have:=hs'
  rcases this with ⟨_,h1,h2⟩|⟨_,h1,h2⟩|⟨c,_,h1⟩
  ·rw [h1,h2];rfl
  ·rw [h1,h2];rfl
  ·rw [h1];exact Zrc _
 have hbT:IA bv=match bl.length with|0=>.nils|m+1=>.fz (m+1) none (cs.map Ac):=by
  rcases hs' with ⟨rfl,h1,h2⟩|⟨rfl,h1,h2⟩|⟨c,rfl,h1⟩
  ·rw [h1];rfl
  ·rw [h1];rfl
  ·cases hb:bl.length with
   | zero=>rfl
   | succ m=>rfl
 refine Ax hE bl.length (fun i=>[(1,.ptr 0 0),(2,.ptr 1 0),(13,bv),(14,.int .i64 (bl.length:Int)),(15,.int .i64 (i:Int))]) (fun i=>match i with
  | 0=>[.row 55 [.int .i64 st,.nils,Ac dv,.int .u8 (ph:Int),.bool de,.int .u32 sq],.row 55 [.int .i64 0,.nils,.nils,.int .u8 0,.bool false,.int .u32 0]]
  | i+1=>[.row 55 [.int .i64 st,.sl 2 0 (i+1) none,Ac dv,.int .u8 (ph:Int),.bool de,.int .u32 sq],.row 55 [.int .i64 0,.nils,.nils,.int .u8 0,.bool false,.int .u32 0],.row 76 ((cs.take (i+1)).map Ac)]) (fun _=>True) trivial (Abs.tells (rs:=[0,1]) ⟨by decide,⟨r9,r9,t9,r9,r9,trivial⟩,⟨?_,r9,trivial⟩⟩) ?_
 ·have hr:hfs [.int .i64 st,.nils,Ac dv,.int .u8 (ph:Int),.bool de,.int .u32 sq]=true:=by
   show (true && (true && (AM.hf (Ac dv) && (true && (true && (true && true))))))=true;rw [hdf2];rfl
  exact o9 hr
 intro i hi _
 by_cases hlt:i<bl.length
 ·obtain ⟨b,_,r,hb,⟨w,rfl,hw⟩,hd⟩:=hn i hlt
  have hwb:=s2 b (Zqv hb)
  have hcw:=hcb b w hw hwb
  have hwc:=(Ls.cln hw).cell
  have hwf:=(Ls.cln hw).hf
  have hst:(cs.take (i+1)).map Ac=(cs.take i).map Ac++[Ac w]:=by
   have:cs[i]?=some w:=by
    have hd2:cs.drop (i*1)=[w]++r:=hd
    have:=congrArg List.head? hd2
    rw [Zrc,List.head?_drop] at this
    exact this
   rw [List.take_add_one,this];simp
  have hli:((cs.take i).map Ac).length=i:=by rw [Zqg,Zqz,hcl];omega
  have hfi:=hft (i+1)
  rcases i with _|i
  ·conv=>whnf
   repeat' (first|((first|refine Am hs' hlt hd ?_|refine Ap ?_|refine hcw _ _ ?_|refine Og rfl hwc ?_|refine CJ (m:=1) ?_|refine v7 ?_|refine ⟨rfl,?_⟩);conv=>whnf)|refine v1 ?_ ?_|(intro _;first|omega|conv=>whnf))
   refine ⟨hlt,trivial,Abs.tells (rs:=[0,1,3]) ⟨by decide,⟨r9,r9,t9,r9,r9,trivial⟩,⟨⟨?_,?_⟩,r9,⟨Bd hfi,by rw [AX hfi,hst];rfl⟩,trivial⟩⟩⟩
   ·show (true && (true && (bd 3 (Ac dv) && (true && (true && (true && true))))))=true
    rw [Dd _ hdf2];rfl
   ·show _=some (AObj.row 55 [_,_,AY _ (Ac dv),_,_,_])
    rw [CO _ hdf2];rfl
  ·conv=>whnf
   repeat' (first|((first|refine Am hs' hlt hd ?_|refine Ap ?_|refine hcw _ _ ?_|refine Og rfl hwc ?_|refine Cw (m:=1) (n:=i+1) (old:=(cs.take (i+1)).map Ac) rfl rfl rfl rfl (by rw [hli,Zrc]) rfl (by decide) (by omega) ?_|refine v7 ?_|refine ⟨rfl,?_⟩);conv=>whnf)|refine v1 ?_ ?_|(intro _;first|omega|conv=>whnf))
   refine ⟨hlt,trivial,Abs.tells (rs:=[0,1,4]) ⟨by decide,⟨r9,r9,t9,r9,r9,trivial⟩,⟨⟨?_,?_⟩,r9,⟨Bd hfi,by rw [AX hfi,hst];rfl⟩,trivial⟩⟩⟩
   ·show (true && (true && (bd 3 (Ac dv) && (true && (true && (true && true))))))=true
    rw [Dd _ hdf2];rfl
   ·show _=some (AObj.row 55 [_,_,AY _ (Ac dv),_,_,_])
    rw [CO _ hdf2];rfl
 ·obtain rfl:i=bl.length:=by omega
  have htk:cs.take bl.length=cs:=Zqi (by omega)
  have hfin:∀ (s:St) (w:AV),Frz s w (IA bv)→Frz s (.agg [.int .i64 st,w,Ac dv,.int .u8 (ph:Int),.bool de,.int .u32 sq]) (.agg (DC [.int .i64 st,bv,dv,.int .u8 (ph:Int),.bool de,.int .u32 sq])):=fun s w h=>.agg _ _ (.cons (.plain _ rfl) (.cons h (.cons (.plain _ hdf2) (.cons (.plain _ rfl) (.cons (.plain _ rfl) (.cons (.plain _ rfl) .nil))))))
  rw [hbT] at hfin
  generalize hO:AV.agg (DC [.int .i64 st,bv,dv,.int .u8 (ph:Int),.bool de,.int .u32 sq])=O at *
  clear hO
  revert hfin htk hi hcl
  generalize bl.length=n
  rcases n with _|n
  ·intro hi hcl htk hfin
   conv=>whnf
   repeat' (first|refine v1 ?_ ?_|(intro _;first|omega|conv=>whnf))
   exact hfin _ _ (.plain _ rfl)
  ·intro hi hcl htk hfin
   dsimp only
   rw [htk]
   conv=>whnf
   repeat' (first|refine v1 ?_ ?_|(intro _;first|omega|conv=>whnf))
   exact hfin _ _ (.sl 2 0 _ _ _ 76 _ _ _ rfl (fun i x hx=>by rw [Zqo];exact hx) (Cz hcsf) (.inl rfl))
def Pd:List AV→List AV
 | a::b::c::d::e::f::l=>a::IA b::Ac c::d::e::f::Pd l
 | l=>l
def I8:AV→AV
 | .es=>.fz 0 none []
 | .fz n _ l=>.fz n none (Pd l)
 | v=>v
theorem six (h:hdC.r x l):∃ a b c d e f,l=[a,b,c,d,e,f]:=by
 obtain ⟨st,bl,di,ph,de,sq⟩:=x
 obtain ⟨bv,dv,rfl,-⟩:=Cn h
 exact ⟨_,_,_,_,_,_,rfl⟩
theorem N7:∀ {hs:List Hd}{ls:List (List AV)},All2 hdC.r hs ls→Pd ls.flatten=(ls.map DC).flatten∧All2 hdC.r hs (ls.map DC)
 | _,_,.nil=>⟨rfl,.nil⟩
 | _,_,.cons h1 h2=>by
  obtain ⟨a,b,c,d,e,f,rfl⟩:=six h1
  obtain ⟨k1,k2⟩:=N7 h2
  refine ⟨?_,.cons (OJ h1) k2⟩
  rw [List.flatten_cons,Zrp,List.flatten_cons,← k1];rfl
theorem R2 (h:Ls hdC hs v):Ls hdC hs (I8 v):=by
 obtain ⟨ls,a,s,hn⟩:=h
 obtain ⟨k1,k2⟩:=N7 a
 rcases s with ⟨rfl,h1,h2⟩|⟨rfl,h1,h2⟩|⟨c,rfl,h1⟩
 ·rw [Zq7.1 h1];exact E6 (.inl rfl)
 ·rw [Zq7.1 h1]
  exact ⟨[],.nil,.inr (.inr ⟨none,rfl,rfl⟩),by simp⟩
 ·refine ⟨_,k2,.inr (.inr ⟨none,?_,?_⟩),hn⟩
  ·rw [← k1];rfl
  ·exact Gn k2
def CY (ls:List (List AV)) (i:Nat):List AV:=((ls.take i).map DC).flatten++(ls.drop i).flatten
theorem Zkt {ls:List (List AV)}(h:All2 hdC.r hs ls) (hx:hs[i]?=some x):∃ c,ls[i]?=some c∧hdC.r x c∧((CY ls i).drop (i*6)).take 6=c∧i*6+6≤(CY ls i).length∧(CY ls i).take (i*6)++DC c++(CY ls i).drop (i*6+6)=CY ls (i+1):=by
 have hlt:=(Zqa.1 hx).1
 have hll:=h.length
 obtain ⟨c,hc,hr⟩:=h.get hx
 obtain ⟨a,b,c',d,e,f,rfl⟩:=six hr
 obtain ⟨-,k2⟩:=N7 h
 have hp:((ls.take i).map DC).flatten.length=i*6:=by
  have key:∀ (hs:List Hd) (ls:List (List AV)),All2 hdC.r hs ls→∀ i,i≤ls.length→((ls.take i).map DC).flatten.length=i*6:=by
   intro hs ls h
   induction h with
   | nil=>intro i hi;simp at hi;subst hi;rfl
   | cons h1 h2 ih=>
    intro i hi
    cases i with
    | zero=>rfl
    | succ i=>
     rw [List.take_succ_cons,Zrp,List.flatten_cons,Zqn,ih i (by simpa using hi),hdC.len (OJ h1)]
     show 6+_=_
     omega
  exact key hs ls h i (by omega)
 have hd:(ls.drop i).flatten=[a,b,c',d,e,f]++(ls.drop (i+1)).flatten:=by
  rw [Zqw (by omega),List.flatten_cons,(Zqa.1 hc).2]
 refine ⟨_,hc,hr,?_,?_,?_⟩
 ·unfold CY
  rw [List.drop_append,hp,Nat.sub_self,List.drop_of_length_le (by omega),hd]
  rfl
 ·unfold CY
  rw [Zqn,hp,hd];simp
 ·unfold CY
  rw [← hp,List.take_left,List.drop_append,List.drop_of_length_le (by omega),Nat.add_sub_cancel_left,hd,List.take_add_one,hc,Zqy,List.flatten_append]
  simp
def OT (args:List AV) (u:AV):Prop:=∃ hs v,args=[v]∧Ls hdC hs v∧(hs.length≤1000∧∀ x ∈ hs,MW x)∧u=I8 v
theorem Zhw (h158:Con e 158 (Ag MF)) (h:hdC.r x l) (hs:MW x) (Q:AV→St→Prop) (s:St) (q:Q (.agg (DC l)) s):ESc e 158 [.agg l] s Q:=by
 refine ESc.rel h158 ⟨_,x,l,rfl,h,hs,rfl⟩ ?_
 rintro u ⟨x',l',e1,-,-,rfl⟩
 cases e1
 exact q
theorem Zkx (hE:EM P e) (h157:Inl e 157 (SG 55 6) [.tmp 2]) (h158:Con e 158 (Ag MF)):OvOk P 116 (Ag OT):=by
 refine Da g116.b ?_
 rintro args u ⟨hs,v,rfl,hH,⟨hn,hok⟩,rfl⟩
 have hvf:=hH.hf
 have huf:=(R2 hH).hf
 refine ⟨by show (AM.hf v && true)=true;rw [hvf];rfl,huf,C.of_G hE g116 ?_⟩
 obtain ⟨ls,a,sl,-⟩:=hH
 obtain ⟨k1,k2⟩:=N7 a
 have hfl:=JQ k2
 change VW P e 0 _ (Ah [v] 0 .lf) St0 none [] _
 have fin:∀ (st:St) (r m:Nat) (c:Option Nat),st.get r=some (.row 55 (ls.map DC).flatten)→m=hs.length→Frz st (.sl r 0 m c) (.fz hs.length none (ls.map DC).flatten):=by
  rintro st r m c hg rfl
  exact .sl r 0 _ _ _ 55 _ _ _ hg (fun i x hx=>by rw [Zqo];exact hx) (Cz hfl) (.inl rfl)
 rcases sl with ⟨rfl,h1,h2⟩|⟨rfl,h1,h2⟩|⟨c,rfl,hl⟩
 ·conv=>whnf
  repeat' (first|((first|refine ESc.inl h157 ?_|refine Gk rfl rfl rfl ?_|refine AA rfl (show Sl 1 0 [] .nils from .inl ⟨rfl,rfl,rfl⟩) ?_);conv=>whnf)|fail)
  refine Ax hE 0 (fun i=>[(3,.nils),(8,.nils),(9,.int .i64 0),(10,.int .i64 (i:Int))]) (fun _=>[]) (fun _=>True) trivial (Abs.tells (rs:=[]) .a) ?_
  intro i hi _
  obtain rfl:i=0:=by omega
  conv=>whnf
  repeat' (first|refine v1 ?_ ?_|(intro _;first|omega|conv=>whnf))
  exact .plain _ rfl
 ·obtain rfl:=Zq7.1 h1
  cases a
  conv=>whnf
  repeat' (first|((first|refine ESc.inl h157 ?_|refine Gk rfl rfl rfl ?_|refine EL rfl rfl rfl ?_|refine BY ?_);conv=>whnf)|fail)
  refine Ax hE 0 (fun i=>[(3,.sl 0 0 0 (some 0)),(8,.sl 0 0 0 (some 0)),(9,.int .i64 0),(10,.int .i64 (i:Int))]) (fun _=>[.row 55 []]) (fun _=>True) trivial (Abs.tells (rs:=[0]) .a) ?_
  intro i hi _
  obtain rfl:i=0:=by omega
  conv=>whnf
  repeat' (first|refine v1 ?_ ?_|(intro _;first|omega|conv=>whnf))
  exact fin _ _ _ _ rfl rfl
 ·rcases hs with _|⟨x0,hs⟩
  ·cases a
   conv=>whnf
   repeat' (first|((first|refine ESc.inl h157 ?_|refine Gk rfl rfl rfl ?_|refine EL rfl rfl (If (by simp) _) ?_|refine BY ?_);conv=>whnf)|fail)
   refine Ax hE 0 (fun i=>[(3,.sl 0 0 0 (some 0)),(8,.sl 0 0 0 (some 0)),(9,.int .i64 0),(10,.int .i64 (i:Int))]) (fun _=>[.row 55 []]) (fun _=>True) trivial (Abs.tells (rs:=[0]) .a) ?_
   intro i hi _
   obtain rfl:i=0:=by omega
   conv=>whnf
   repeat' (first|refine v1 ?_ ?_|(intro _;first|omega|conv=>whnf))
   exact fin _ _ _ _ rfl rfl
  ·have h0:0<(x0::hs).length:=Nat.succ_pos _
   generalize x0::hs=hs at *
   obtain ⟨y,cs,hcs⟩:∃ y cs,ls.flatten=y::cs:=by
    cases hq:ls.flatten with
    | nil=>rw [hq] at hl;have hl:0=hs.length*6:=hl;omega
    | cons y cs=>exact ⟨y,cs,rfl⟩
   have hcf:=JQ a
   have hend:(AV.fz hs.length none (Pd ls.flatten))=.fz hs.length none (ls.map DC).flatten:=by rw [k1]
   have hst0:CY ls 0=ls.flatten:=rfl
   have hstn:CY ls hs.length=(ls.map DC).flatten:=by
    unfold CY;rw [a.length,List.take_length,List.drop_length];simp
   have hsf:∀ i,hfs (CY ls i)=true:=fun i=>by
    unfold CY
    have e1:∀ l ∈ ls,hfs l=true:=fun l hl=>by
     obtain ⟨x,hx⟩:=a.memR l hl
     exact hdC.hf hx
    have e2:∀ l ∈ ls,hfs (DC l)=true:=fun l hl=>by
     obtain ⟨x,hx⟩:=a.memR l hl
     exact hdC.hf (OJ hx)
    refine E2 (hfs_iff.2 fun v hv=>?_) (hfs_iff.2 fun v hv=>?_)
    ·obtain ⟨l,hl,hv⟩:=List.mem_flatten.1 hv
     obtain ⟨m,hm,rfl⟩:=Zq9.1 hl
     exact hfs_iff.1 (e2 m (Zrg hm)) v hv
    ·obtain ⟨l,hl,hv⟩:=List.mem_flatten.1 hv
     exact hfs_iff.1 (e1 l (Zrl hl)) v hv
   have hsrc:∀ s,CS 6 (.fz hs.length c ls.flatten) s=some (y::cs):=fun s=>by rw [← hcs];exact If hl s
   have hlc:(y::cs).length=hs.length*6:=by rw [← hcs];exact hl
   conv=>whnf
   repeat' (first|((first|refine ESc.inl h157 ?_|refine Gk rfl rfl rfl ?_|refine Qs (m:=hs.length) rfl rfl (hsrc _) rfl hlc (by decide) h0 (by omega) ?_|refine BY ?_);conv=>whnf)|fail)
   have hr0:hfs (y::cs)=true:=by rw [← hcs];exact hcf
   refine Ax hE hs.length (fun i=>[(3,.sl 0 0 hs.length none),(8,.sl 0 0 hs.length none),(9,.int .i64 (hs.length:Int)),(10,.int .i64 (i:Int))]) (fun i=>[.row 55 (CY ls i)]) (fun _=>True) trivial (Abs.tells (rs:=[1]) ⟨by decide,⟨r9,r9,r9,r9,trivial⟩,⟨⟨Bd (hsf 0),by rw [AX (hsf 0),hst0,hcs];rfl⟩,trivial⟩⟩) ?_
   intro i hi _
   by_cases hlt:i<hs.length
   ·obtain ⟨x,hx⟩:∃ x,hs[i]?=some x:=⟨_,Zp9 hlt⟩
    obtain ⟨l,hl1,hl2,hl3,hl4,hl5⟩:=Zkt a hx
    have hcall:=Zhw h158 hl2 (hok x (Zqv hx))
    obtain ⟨a1,a2,a3,a4,a5,a6,rfl⟩:=six hl2
    have hT:DC [a1,a2,a3,a4,a5,a6]=[a1,IA a2,Ac a3,a4,a5,a6]:=rfl
    rw [hT] at hcall hl5
    have hi0:0≤(i:Int):=Zrs _
    have hi1:(i:Int)<hs.length:=Int.ofNat_lt.2 hlt
    have hld:∀ (s:St),s.get 0=some (.row 55 (CY ls i))→load 0 (0+(i:Int).toNat*6) 6 s=some [a1,a2,a3,a4,a5,a6]:=fun s hs=>by
     rw [Int.toNat_natCast,Zqo,GR hs hl4,hl3]
    have hsto:∀ (s:St),s.get 0=some (.row 55 (CY ls i))→storeAt 0 (0+(i:Int).toNat*6) [a1,IA a2,Ac a3,a4,a5,a6] s=some (s.put 0 (.row 55 (CY ls (i+1)))):=fun s hs=>by
     rw [Int.toNat_natCast,Zqo,Gm hs hl4]
     show some (s.put 0 (.row 55 ((CY ls i).take (i*6)++[a1,IA a2,Ac a3,a4,a5,a6]++(CY ls i).drop (i*6+6))))=_
     rw [hl5]
    have hs1:=hsf (i+1)
    generalize CY ls (i+1)=S1 at *
    generalize CY ls i=S0 at *
    conv=>whnf
    repeat' (first|((first|refine HD rfl rfl hi0 hi1 ?_|refine BA _ (hld _ rfl) ?_|refine hcall _ _ ?_|refine BA _ (hsto _ rfl) ?_|refine v7 ?_|refine ⟨rfl,?_⟩);conv=>whnf)|refine v1 ?_ ?_|(intro _;first|omega|conv=>whnf))
    exact ⟨hlt,trivial,Abs.tells (rs:=[0]) .a⟩
   ·obtain rfl:i=hs.length:=by omega
    have hq:I8 (.fz hs.length c ls.flatten)=.fz hs.length none (ls.map DC).flatten:=hend
    rw [hstn,hq]
    conv=>whnf
    repeat' (first|refine v1 ?_ ?_|(intro _;first|omega|conv=>whnf))
    exact fin _ _ _ _ rfl rfl
end Go.AM
